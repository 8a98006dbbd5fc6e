/-
 Texts of this claim, one behind another.
-/
import Derived.Test.YtcclchnbjpncdaaMg8
set_option linter.unusedSimpArgs false
set_option linter.unnecessarySimpa false
set_option linter.unusedVariables false
namespace Go.Dm
open Go.RowKit
section
variable {P:Program} {G:Gh} {s:S} {a:Act} {w:World} {A:Nat→Prop} {β:Nat→Option Nat} {γ:Nat→Option (Nat × List Nat)}
theorem HR.sub_ {G:Gw} {N:Nat} {M M':Nat→Option Ob} (h:HR G w A β γ N M) (hs:∀ τ ob,M' τ=some ob→M τ=some ob):HR G w A β γ N M':=by
  have live:∀ τ,M' τ ≠ none→M τ ≠ none:=fun τ h e=>by
    obtain ⟨ob,hob⟩:=Option.ne_none_iff_exists'.1 h
    rw [hs τ ob hob] at e;cases e
  exact ⟨h.below,h.sub,h.up,h.low,fun τ ob hτ hm=>h.objs τ ob hτ (hs τ ob hm),fun b τ π h1 h2 h3=>h.own b τ π h1 h2 (live τ h3),fun τ b h1 h2 h3=>h.root τ b h1 (live τ h2) h3,h.ge,h.flt,fun τ hF=>⟨(h.fixd τ hF).1,fun ob hm=>(h.fixd τ hF).2 ob (hs τ ob hm)⟩⟩
theorem GR.trim (g:GR G s a w A β γ) {n:Nat} (hn:n≤s.N) (hge:G.g.n0≤n):GR G (s.trim n) a w A β γ:=by
  have hM:∀ τ,(s.trim n).M τ=if τ<n then (s.M τ).map (Ob.mapc (D.trim n)) else none:=fun _=>rfl
  have live:∀ τ,(s.trim n).M τ ≠ none→s.M τ ≠ none:=fun τ h2 e=>by
    rw [hM] at h2
    split at h2
    · rw [e] at h2;exact h2 rfl
    · exact h2 rfl
  refine ⟨g.size,g.defers,⟨g.hr.below,g.hr.sub,g.hr.up,g.hr.low,fun τ ob hτ hm => ?_,fun b τ π h1 h2 h3=>g.hr.own b τ π h1 (Nat.lt_of_lt_of_le h2 hn) (live τ h3),fun τ b h1 h2 h3=>g.hr.root τ b (Nat.lt_of_lt_of_le h1 hn) (live τ h2) h3,hge,g.hr.flt,fun τ hF=>⟨(g.hr.fixd τ hF).1,fun ob hm => ?_⟩⟩,
    fun t=>nf_trim.dr (fun _ _=>rfl) (fun _ h=>h) (Shp.refl _).f (g.slots t),g.keep⟩
  · have hτ':τ<n:=hτ
    rw [hM,if_pos hτ'] at hm
    simp only [Option.map_eq_some_iff] at hm
    obtain ⟨ob0,h1,rfl⟩:=hm
    exact nf_trim.or (g.hr.objs τ ob0 (Nat.lt_of_lt_of_le hτ' hn) h1) rfl (fun _ _=>rfl) (fun _ h=>h) (Shp.refl _).f (fun _ _ _ h=>⟨rfl,h⟩) (fun _ _=>rfl)
  · rw [hM] at hm
    split at hm
    · simp only [Option.map_eq_some_iff] at hm
      obtain ⟨ob0,h1,rfl⟩:=hm
      rw [mapc_kd];exact (g.hr.fixd τ hF).2 ob0 h1
    · cases hm
theorem keep_kr {N:Nat} {d:D} {x:Value} (h:DR w A β N d x):KR w A β (fun τ=>τ<N∧isFix (s.M τ)=true) (d.keep s) x:=by
  refine h.lfQ (Q:=KR w A β (fun τ=>τ<N∧isFix (s.M τ)=true)) (fun ds cs h1 h2=>.ag ds cs h1 h2) (fun ds cs h1 h2=>.tu ds cs h1 h2) (fun g ds cs h1 h2=>.clo g ds cs h1 h2) (fun d x hd h => ?_)
  cases h with
  | cl d x h =>
    cases h with
    | ag|tu|clo=>simp [D.leaf] at hd
    | v=>exact .cl _ _ (.v _)
    | nl=>exact .cl _ _ .nl
    | sl0=>exact .cl _ _ (.sl0 _ _ _)
    | sl sz es b off n c us h1 h2 h3 h4 h5 h6=>exact .cl _ _ (.sl sz es b off n c us h1 h2 h3 h4 h5 h6)
    | ip e o b off us h1 h2 h3=>exact .cl _ _ (.ip e o b off us h1 h2 h3)
    | junk=>exact .cl _ _ (.junk _)
  | ref=>exact .cl _ _ (.junk _)
  | refz=>exact .cl _ _ (.junk _)
  | ptr τ sz i o b h1 hb =>
    simp only [keepL]
    split
    · next hf=>exact .ptr τ sz i o b ⟨h1,hf⟩ hb
    · exact .cl _ _ (.junk _)
  | mp τ b h1 hb =>
    simp only [keepL]
    split
    · next hf=>exact .mp τ b ⟨h1,hf⟩ hb
    · exact .cl _ _ (.junk _)
  | ag|tu|clo=>simp [D.leaf] at hd
theorem look_mem {α:Type} {t:Nat} {d:α}:∀ {l:List (Nat × α)},look t l=some d→(t,d) ∈ l
  | [],h=>by simp [look] at h
  | (i,x)::r,h=>by
    unfold look at h
    split at h
    · next e=>cases h;subst e;simp
    · exact List.mem_cons_of_mem _ (look_mem h)
theorem GR.head {s':S} {F:Nat→Prop} {B:Nat→Option Nat} (g:GR G s' a w A β γ) {asgL:List Nat} {ups:List (Nat × D)} {ms:List (Nat × Ob)} (hN:s'.N=s.N) (hf:Fits s' ups ms) (hF:∀ τ,F τ→τ<s.N∧β τ=B τ)
    (hk:∀ t,asgL.contains t=false→G.T t ⟨B,F,(s.ρ t).keep s⟩):GR G (s.head asgL ups ms) a w A β γ:=by
  have hM:∀ τ ob,(s.head asgL ups ms).M τ=some ob→s'.M τ=some ob:=fun τ ob h=>hf.2 _ (look_mem h)
  refine ⟨g.size,g.defers,?_,fun t => ?_,g.keep⟩
  · have:=g.hr.sub_ hM
    rw [hN] at this;exact this
  · show DR w A β s.N (headD (look t ups) (asgL.contains t) s t) _
    cases hl:look t ups with
    | some d =>
      have:=hf.1 _ (look_mem hl)
      have h2:=g.slots t
      rw [hN] at h2
      simp only at this
      rw [this] at h2;exact h2
    | none =>
      cases hc:asgL.contains t with
      | true=>exact DR.junk
      | false=>exact (g.keep t _ (hk t hc)).toD hF
theorem GR.headN {s':S} {F:Nat→Prop} {B:Nat→Option Nat} {n:Nat} (g:GR G s' a w A β γ) {asgL:List Nat} {ups:List (Nat × D)} {ms:List (Nat × Ob)} (hN:s'.N=n) (hf:Fits s' ups ms) (hF:∀ τ,F τ→τ<n∧β τ=B τ)
    (hk:∀ t,asgL.contains t=false→G.T t ⟨B,F,(s.ρ t).keep s⟩):GR G ((s.head asgL ups ms).setN n) a w A β γ:=by
  have hM:∀ τ ob,(s.head asgL ups ms).M τ=some ob→s'.M τ=some ob:=fun τ ob h=>hf.2 _ (look_mem h)
  refine ⟨g.size,g.defers,?_,fun t => ?_,g.keep⟩
  · have:=g.hr.sub_ hM
    rw [hN] at this;exact this
  · show DR w A β n (headD (look t ups) (asgL.contains t) s t) _
    cases hl:look t ups with
    | some d =>
      have:=hf.1 _ (look_mem hl)
      have h2:=g.slots t
      rw [hN] at h2
      simp only at this
      rw [this] at h2;exact h2
    | none =>
      cases hc:asgL.contains t with
      | true=>exact DR.junk
      | false=>exact (g.keep t _ (hk t hc)).toD hF
def toX:Ex→Exit
  | .nrm=>.normal
  | .exit i=>.exit i
  | .ret=>.ret
theorem mem_dedup:∀ (l:List Nat) (t:Nat),t ∈ l→t ∈ dedup l
  | [],t,h=>by simp at h
  | x :: l, t, h => by
    have ih:=mem_dedup l t
    have e:dedup (x::l)=if (dedup l).contains x then dedup l else x::dedup l:=rfl
    rw [e]
    rcases List.mem_cons.1 h with h|h
    · subst h
      split
      · next hc=>simpa using hc
      · simp
    · split
      · exact ih h
      · exact List.mem_cons_of_mem _ (ih h)
def Kont (P:Program) (G:Gh) (st:List Fr) (Q:Exit→Act→World→Prop):Prop:=∀ e s' a' w',rs P e st s'→SR G s' a' w'→Q (toX e) a' w'
theorem wpIn_loop_n {F : Fence} {n0 : Nat} {c : Code} {Q : Exit → Act → World → Prop} (I : Nat → Act → World → Prop) (round : ∀ n a w, I n a w → c.wpIn F n0 P (Exit.then (fun a' w' => ∃ m, m < n ∧ I m a' w') Q) a w) {n : Nat} (h : I n a w) : (Code.loop c).wpIn F n0 P Q a w := by
  classical
  have hex:∀ a w,∃ m:Nat,(∃ n,I n a w)→I m a w∧∀ k,I k a w→m≤k:=by
    intro a w
    have least:∀ n,I n a w → ∃ m,I m a w∧∀ k,I k a w→m≤k:=by
      intro n
      induction n using Nat.strongRecOn with
      | _ n ih =>
        intro hn
        by_cases h : ∃ k,k<n∧I k a w
        · obtain ⟨k,h1,h2⟩:=h;exact ih k h1 h2
        · exact ⟨n,hn,fun k hk=>Nat.le_of_not_lt fun h1=>h ⟨k,h1,hk⟩⟩
    by_cases h : ∃ n,I n a w
    · obtain ⟨n,hn⟩:=h
      obtain ⟨m,h1,h2⟩:=least n hn
      exact ⟨m,fun _=>⟨h1,h2⟩⟩
    · exact ⟨0,fun h'=>absurd h' h⟩
  let μ:Act→World→Nat:=fun a w=>Classical.choose (hex a w)
  have hμ:∀ a w,(∃ n,I n a w)→I (μ a w) a w∧∀ k,I k a w→μ a w≤k:=fun a w=>Classical.choose_spec (hex a w)
  refine wpIn_loop (fun a w => ∃ n,I n a w) μ ⟨n,h⟩ (fun a w hI => ?_)
  refine wpIn_mono (round _ a w (hμ a w hI).1) (fun e a' w' hq => ?_)
  cases e with
  | normal =>
    obtain ⟨m,hm,hI'⟩:=hq
    exact ⟨⟨m,hI'⟩,Nat.lt_of_le_of_lt ((hμ a' w' ⟨m,hI'⟩).2 m hI') hm⟩
  | _=>exact hq
def Gh.loop (G : Gh) (s : S) (β : Nat → Option Nat) (asgL : List Nat) : Gh :=
  { g:={ w0:=G.g.w0,A0:=G.g.A0,O0:=G.g.O0,n0:=s.N,β0:=β,F:=fun τ=>G.g.F τ∨(τ<s.N∧isFix (s.M τ)=true) }
    nt:=G.nt,T:=fun t y=>G.T t y∨(asgL.contains t=false∧y=⟨β,fun τ=>τ<s.N∧isFix (s.M τ)=true,(s.ρ t).keep s⟩),z:=G.z }
theorem GR.loop (g:GR G s a w A β γ) (asgL:List Nat):GR (G.loop s β asgL) s a w A β γ:=by
  refine ⟨g.size,g.defers,⟨g.hr.below,g.hr.sub,g.hr.up,g.hr.low,g.hr.objs,g.hr.own,g.hr.root,Nat.le_refl _,fun τ h => ?_,fun τ h=>⟨rfl,fun ob hm => ?_⟩⟩,g.slots,fun t y ht => ?_⟩
  · rcases h with h|h
    · exact Nat.lt_of_lt_of_le (g.hr.flt τ h) g.hr.ge
    · exact h.1
  · rcases h with h|h
    · exact (g.hr.fixd τ h).2 ob hm
    · have:=h.2
      rw [hm] at this;simpa [isFix] using this
  · rcases ht with h|⟨_,rfl⟩
    · exact g.keep t y h
    · exact keep_kr (g.slots t)
theorem GR.unloop {s':S} {a':Act} {w':World} {A':Nat→Prop} {β':Nat→Option Nat} {γ':Nat→Option (Nat × List Nat)} {asgL:List Nat} (g0:GR G s a w A β γ) (g:GR (G.loop s β asgL) s' a' w' A' β' γ'):GR G s' a' w' A' β' γ' :=
  ⟨g.size,g.defers,⟨g.hr.below,g.hr.sub,g.hr.up,g.hr.low,g.hr.objs,g.hr.own,g.hr.root,Nat.le_trans g0.hr.ge g.hr.ge,g0.hr.flt,fun τ hF=>⟨((g.hr.fixd τ (.inl hF)).1).trans (g0.hr.fixd τ hF).1,(g.hr.fixd τ (.inl hF)).2⟩⟩,g.slots,fun t y ht=>g.keep t y (.inl ht)⟩
def Lv (γ:Nat→Option (Nat × List Nat)) (s:S) (b:Nat):Prop := ∃ τ π,γ b=some (τ,π)∧τ<s.N∧s.M τ ≠ none
theorem GR.kept {a':Act} {w':World} {z':List (Nat × Obj)} (g:GR G s a w A β γ) (ht:a'.tmps=a.tmps) (hsz:w.heap.size≤w'.heap.size) (hA:∀ b,A b→w'.heap[b]?=w.heap[b]?) (hO:∀ b,Lv γ s b→w'.heap[b]?=w.heap[b]?)
    (hs:Shp w w') (hb:Bel G.g.O0 G.g.w0 w') (hz:Mz G.g.w0.heap.size a'.defers w' A z'):GR { G with z:=z' } s a' w' A β γ:=by
  refine ⟨by rw [ht];exact g.size,hz,⟨hb,g.hr.sub,g.hr.up,fun b h=>Nat.lt_of_lt_of_le (g.hr.low b h) hsz,fun τ ob hτ hm => ?_,fun b τ π h1 h2 h3 => ?_,g.hr.root,g.hr.ge,g.hr.flt,g.hr.fixd⟩,fun t => ?_,fun t y h => ?_⟩
  · have hm':s.M τ ≠ none:=by rw [hm];simp
    exact (g.hr.objs τ ob hτ hm).mono hτ hA (fun _ x=>x) hs (Nat.le_refl _) (fun _ _=>rfl) (fun b π _ hg=>⟨hO b ⟨τ,π,hg,hτ,hm'⟩,hg⟩) (fun b hβ=>hO b ⟨τ,[],g.hr.root τ b hτ hm' hβ,hτ,hm'⟩)
  · obtain ⟨q1,q2,q3,q4⟩:=g.hr.own b τ π h1 h2 h3
    exact ⟨Nat.lt_of_lt_of_le q1 hsz,q2,q3,fun o ho=>q4 o (by rw [← hO b ⟨τ,π,h1,h2,h3⟩];exact ho)⟩
  · rw [ht];exact (g.slots t).mono hA (fun _ x=>x) hs (Nat.le_refl _) (fun _ _=>rfl)
  · rw [ht];exact (g.keep t y h).mono hA (fun _ x=>x) (fun τ h=>⟨h,rfl⟩)
theorem shp_put {l:Nat} {r:Loop} {o:Obj} (hl:w.heap[l]?=some (.loop r)):Shp w (w.putObj l o):=fun c arr T hc=>by
  by_cases e:c=l
  · subst e;rw [hl] at hc;cases hc
  · exact ⟨arr,by rw [World.putObj_heap_other e];exact hc,rfl⟩
theorem shp_putD {l:Nat} {d:Option (List Deferred)} {o:Obj} (hl:w.heap[l]?=some (.deferred d)):Shp w (w.putObj l o):=fun c arr T hc=>by
  by_cases e:c=l
  · subst e;rw [hl] at hc;cases hc
  · exact ⟨arr,by rw [World.putObj_heap_other e];exact hc,rfl⟩
theorem Bel.putObj {O:Nat→Prop} {w0:World} (h:Bel O w0 w) {l:Nat} (hl:w0.heap.size≤l∨O l) {o:Obj} (hs:Shp w (w.putObj l o)):Bel O w0 (w.putObj l o) :=
  ⟨h.os,h.tape,h.output,by rw [World.putObj_size];exact h.size,fun k hk hn=>by
    have : k ≠ l := by rintro rfl; rcases hl with h' | h'; · omega
                       · exact hn h'
    rw [World.putObj_heap_other this];exact h.block k hk hn,h.shp.trans hs⟩
theorem GR.putRec {a':Act} {l:Nat} {o0 o:Obj} {z':List (Nat × Obj)} (g:GR G s a w A β γ) (ht:a'.tmps=a.tmps) (hl:w.heap[l]?=some o0) (h0:oth o0=true) (hs:Shp w (w.putObj l o)) (hA:¬ A l) (hO:G.g.w0.heap.size≤l∨G.g.O0 l)
    (hz:Mz G.g.w0.heap.size a'.defers (w.putObj l o) A z'):GR { G with z:=z' } s a' (w.putObj l o) A β γ:=by
  refine g.kept ht (Nat.le_of_eq World.putObj_size.symm) (fun b hb=>World.putObj_heap_other (fun e=>hA (e ▸ hb))) (fun b hb=>World.putObj_heap_other (fun e => ?_)) hs (g.hr.below.putObj hO hs) hz
  obtain ⟨τ,π,h1,h2,h3⟩:=hb
  have:=(g.hr.own b τ π h1 h2 h3).2.2.2
  subst e
  have:=this o0 hl
  rw [h0] at this;cases this
theorem Wch.put {L:List (Nat × Obj)} {l:Nat} {o:Obj} (h:Wch w A L) (hn:∀ p,p ∈ L→p.1 ≠ l):Wch (w.putObj l o) A L:=fun p hp =>
  ⟨(h p hp).1,(h p hp).2.1,by rw [World.putObj_heap_other (hn p hp)];exact (h p hp).2.2⟩
theorem Wch.cons {L:List (Nat × Obj)} {l:Nat} {o:Obj} (h:Wch w A L) (ho:oth o=true) (hA:¬ A l) (hl:w.heap[l]?=some o):Wch w A ((l,o)::L):=fun p hp=>by
  rcases List.mem_cons.1 hp with rfl|hp
  · exact ⟨ho,hA,hl⟩
  · exact h p hp
theorem GR.rebase {Y:Nat→Prop} {tmps:Array Value} {s':S} {z':List (Nat × Obj)} {T:Nat→KD→Prop} (l:Nat) (g:GR G s a w A β γ) (hM:s'.M=s.M) (hN:s'.N=s.N) (hY:∀ b,Y b→b<w.heap.size∧(A b∨(¬ Lv γ s b∧∀ p,p ∈ z'→p.1 ≠ b)))
    (hz:Wch w A z') (hsz:tmps.size=G.nt) (hρ:∀ t,DR w (fun b=>A b∨Y b) β s.N (s'.ρ t) (tmps.getD t undef)) (hT:∀ t y,T t y→KR w (fun b=>A b∨Y b) y.B y.F y.d (tmps.getD t undef)) :
    GR ⟨{ w0:=w,A0:=fun b=>A b∨Y b,O0:=fun b=>Lv γ s b∨b=l,n0:=G.g.n0,β0:=G.g.β0,F:=G.g.F },G.nt,T,z'⟩ s' { tmps:=tmps,defers:=[] } w (fun b=>A b∨Y b) β γ:=by
  have hz':Wch w (fun b=>A b∨Y b) z':=fun p hp=>⟨(hz p hp).1,fun h=>by
    rcases h with h|h
    · exact (hz p hp).2.1 h
    · rcases (hY _ h).2 with h'|h'
      · exact (hz p hp).2.1 h'
      · exact h'.2 p hp rfl,(hz p hp).2.2⟩
  refine ⟨hsz,⟨⟨[],rfl,List.nodup_nil,fun _ h=>(by cases h),fun _ h=>(by cases h)⟩,hz'⟩,⟨Bel.refl _ _,fun _ h=>h,fun _ h=>.inl h,fun b h=>h.elim (g.hr.low b) fun h=>(hY b h).1,fun τ ob hτ hm => ?_,fun b τ π h1 h2 h3 => ?_,fun τ b h1 h2 h3 => ?_,?_,g.hr.flt,fun τ hF=>⟨(g.hr.fixd τ hF).1,fun ob hm=>(g.hr.fixd τ hF).2 ob (by rw [← hM];exact hm)⟩⟩,fun t=>by rw [hN];exact hρ t,hT⟩
  · rw [hN] at hτ ⊢;rw [hM] at hm
    exact (g.hr.objs τ ob hτ hm).mono hτ (fun _ _=>rfl) (fun _ h=>.inl h) (Shp.refl _) (Nat.le_refl _) (fun _ _=>rfl) (fun _ _ _ h=>⟨rfl,h⟩) (fun _ _=>rfl)
  · rw [hN] at h2;rw [hM] at h3
    obtain ⟨q1,q2,q3,q4⟩:=g.hr.own b τ π h1 h2 h3
    refine ⟨q1,fun h => ?_,.inr (.inl ⟨τ,π,h1,h2,h3⟩),q4⟩
    rcases h with h|h
    · exact q2 h
    · rcases (hY b h).2 with h'|h'
      · exact q2 h'
      · exact h'.1 ⟨τ,π,h1,h2,h3⟩
  · rw [hN] at h1;rw [hM] at h2
    exact g.hr.root τ b h1 h2 h3
  · rw [hN];exact g.hr.ge
theorem GR.unrebase {Y:Nat→Prop} {s' s2:S} {a':Act} {w':World} {A':Nat→Prop} {β':Nat→Option Nat} {γ':Nat→Option (Nat × List Nat)} {T:Nat→KD→Prop} {l:Nat} {z' z'':List (Nat × Obj)} (g:GR G s a w A β γ)
    (hl:G.g.w0.heap.size≤l∨G.g.O0 l) (hlA:¬ A l) (hY:∀ b,Y b→A b∨G.g.w0.heap.size≤b)
    (g':GR ⟨{ w0:=w,A0:=fun b=>A b∨Y b,O0:=fun b=>Lv γ s b∨b=l,n0:=G.g.n0,β0:=G.g.β0,F:=G.g.F },G.nt,T,z'⟩ s' a' w' A' β' γ') (hz:Mz G.g.w0.heap.size a.defers w' A' z'')
    (hM:s2.M=s'.M) (hN:s2.N=s'.N) (hρ:∀ t,(∃ y,G.T t y∧s2.ρ t=y.d∧∀ τ,y.F τ→τ<s'.N∧β' τ=y.B τ)∨DR w' A' β' s'.N (s2.ρ t) (a.tmps.getD t undef)):GR { G with z:=z'' } s2 a w' A' β' γ':=by
  have hO0:∀ b,(Lv γ s b∨b=l)→G.g.w0.heap.size≤b∨G.g.O0 b:=fun b h=>by
    rcases h with ⟨τ,π,h1,h2,h3⟩|rfl
    · exact (g.hr.own b τ π h1 h2 h3).2.2.1
    · exact hl
  have hAw:∀ b,A b→w'.heap[b]?=w.heap[b]?:=fun b hb=>g'.hr.below.block b (g.hr.low b hb) fun h=>by
    rcases h with ⟨τ,π,h1,h2,h3⟩|rfl
    · exact (g.hr.own b τ π h1 h2 h3).2.1 hb
    · exact hlA hb
  have hAA:∀ b,A b→A' b:=fun b hb=>g'.hr.sub b (.inl hb)
  have hK:∀ t y,G.T t y→KR w' A' y.B y.F y.d (a.tmps.getD t undef):=fun t y h=>(g.keep t y h).mono hAw hAA (fun τ h=>⟨h,rfl⟩)
  refine ⟨g.size,hz,⟨g.hr.below.trans g'.hr.below (fun b hb h=>(hO0 b h).elim (fun h=>by omega) fun h=>h),fun b hb=>hAA b (g.hr.sub b hb),fun b hb => ?_,g'.hr.low,fun τ ob hτ hm => ?_,fun b τ π h1 h2 h3 => ?_,fun τ b h1 h2 h3 => ?_,?_,g.hr.flt,fun τ hF=>⟨(g'.hr.fixd τ hF).1,fun ob hm=>(g'.hr.fixd τ hF).2 ob (by rw [← hM];exact hm)⟩⟩,fun t => ?_,hK⟩
  · rcases g'.hr.up b hb with (h|h)|h|h
    · exact g.hr.up b h
    · rcases hY b h with h|h
      · exact g.hr.up b h
      · exact .inr (.inr h)
    · exact (hO0 b h).elim (fun h=>.inr (.inr h)) fun h=>.inr (.inl h)
    · exact .inr (.inr (Nat.le_trans g.hr.below.size h))
  · rw [hN] at hτ ⊢;rw [hM] at hm;exact g'.hr.objs τ ob hτ hm
  · rw [hN] at h2;rw [hM] at h3
    obtain ⟨q1,q2,q3,q4⟩:=g'.hr.own b τ π h1 h2 h3
    exact ⟨q1,q2,q3.elim (fun h=>.inl (Nat.le_trans g.hr.below.size h)) (hO0 b),q4⟩
  · rw [hN] at h1;rw [hM] at h2;exact g'.hr.root τ b h1 h2 h3
  · rw [hN];exact g'.hr.ge
  · rcases hρ t with ⟨y,h1,h2,h3⟩|h
    · rw [h2,hN];exact (hK t y h1).toD h3
    · rw [hN];exact h
theorem putL_slots {N : Nat} : ∀ (ps : List Nat) (ds : List D) (vs : List Value) (s : S) (tmps : Array Value), ds.length = vs.length → (∀ i, i < ds.length → DR w A β N (ds.getD i .junk) (vs.getD i undef)) → (∀ p, p ∈ ps → p < tmps.size) → (∀ t, DR w A β N (s.ρ t) (tmps.getD t undef)) →
    ((ps.zip vs).foldl (fun tmps (x:Nat × Value)=>tmps.setIfInBounds x.1 x.2) tmps).size=tmps.size∧(∀ t,DR w A β N ((s.putL ps ds).ρ t) (((ps.zip vs).foldl (fun tmps (x:Nat × Value)=>tmps.setIfInBounds x.1 x.2) tmps).getD t undef))∧(s.putL ps ds).M=s.M∧(s.putL ps ds).N=s.N∧∀ t,t ∉ ps→((ps.zip vs).foldl (fun tmps (x:Nat × Value)=>tmps.setIfInBounds x.1 x.2) tmps).getD t undef=tmps.getD t undef
  | [],ds,vs,s,tmps,h1,h2,h3,h4=>by
    have:s.putL [] ds=s:=by cases ds<;>rfl
    rw [this];exact ⟨rfl,h4,rfl,rfl,fun _ _=>rfl⟩
  | p::ps,[],vs,s,tmps,h1,h2,h3,h4=>by
    have:vs=[]:=List.eq_nil_of_length_eq_zero h1.symm
    subst this
    exact ⟨rfl,h4,rfl,rfl,fun _ _=>by simp⟩
  | p::ps,d::ds,[],s,tmps,h1,h2,h3,h4=>by cases h1
  | p :: ps, d :: ds, v :: vs, s, tmps, h1, h2, h3, h4 => by
    have hp:=h3 p (by simp)
    have ih:=putL_slots ps ds vs (s.put (some p) d) (tmps.setIfInBounds p v) (by simpa using h1) (fun i hi=>by simpa using h2 (i+1) (by simpa using hi)) (fun q hq=>by simpa using h3 q (by simp [hq])) (fun t=>by
      have e:(tmps.setIfInBounds p v).getD t undef=if t=p then v else tmps.getD t undef:=by
        by_cases h:t=p
        · subst h;simp [hp]
        · simp only [h,if_false,Array.getD_eq_getD_getElem?,Array.getElem?_setIfInBounds]
          rw [if_neg (fun e=>h e.symm)]
      rw [e]
      show DR w A β N (if t=p then d else s.ρ t) _
      by_cases h:t=p
      · simp only [h,if_true];simpa using h2 0 (by simp)
      · simp only [h,if_false];exact h4 t)
    simp only [List.zip_cons_cons,List.foldl_cons]
    refine ⟨by rw [ih.1];simp,ih.2.1,ih.2.2.1,ih.2.2.2.1,fun t ht => ?_⟩
    rw [ih.2.2.2.2 t fun h=>ht (by simp [h])]
    have hne:t ≠ p:=fun e=>ht (by simp [e])
    simp only [Array.getD_eq_getD_getElem?,Array.getElem?_setIfInBounds]
    rw [if_neg (fun e=>hne e.symm)]
theorem mkD_inj {x y:Nat} (h:mkD x=mkD y):x=y:=by simpa [mkD] using h
def Obs (A:Nat→Prop) (γ:Nat→Option (Nat × List Nat)) (s:S) (z:List (Nat × Obj)) (b:Nat):Prop:=A b∨Lv γ s b ∨ ∃ o,(b,o) ∈ z
theorem GR.stay {O:Nat→Prop} {w':World} {n1:Nat} (g:GR G s a w A β γ) (hO:∀ b,O b ↔ Obs A γ s G.z b) (hn:G.g.w0.heap.size≤n1) (hk:Kpt (fun b=>b<n1∨O b) w w') (hmz:∀ A' w',Wch w' A' G.z→Mz G.g.w0.heap.size a.defers w' A' G.z):GR G s a w' A β γ:=by
  have h1:∀ b,O b→b<w.heap.size→w'.heap[b]?=w.heap[b]?:=fun b hb hl=>hk.blk b hl (.inr hb)
  have hz:Wch w' A G.z:=fun p hp=>by
    obtain ⟨q1,q2,q3⟩:=g.defers.2 p hp
    exact ⟨q1,q2,by rw [h1 p.1 ((hO p.1).2 (.inr (.inr ⟨p.2,hp⟩))) (lt_of_get q3)];exact q3⟩
  exact g.kept rfl hk.size (fun b hb=>h1 b ((hO b).2 (.inl hb)) (g.hr.low b hb)) (fun b hb=>h1 b ((hO b).2 (.inr (.inl hb))) (let ⟨τ,π,e1,e2,e3⟩:=hb;(g.hr.own b τ π e1 e2 e3).1)) hk.shp
    ⟨hk.os.trans g.hr.below.os,hk.tape.trans g.hr.below.tape,hk.output.trans g.hr.below.output,Nat.le_trans g.hr.below.size hk.size,fun b hb hn'=>(hk.blk b (Nat.lt_of_lt_of_le hb g.hr.below.size) (.inl (Nat.lt_of_lt_of_le hb hn))).trans (g.hr.below.block b hb hn'),g.hr.below.shp.trans hk.shp⟩ (hmz _ _ hz)
theorem kr_v {w:World} {A:Nat→Prop} {B:Nat→Option Nat} {F:Nat→Prop} {x y:Value} (h:KR w A B F (.v x) y):y=x:=by
  cases h with
  | cl d x h=>cases h;rfl
theorem rf_sound {s0 : S} {L : List Nat} {x : Operand} {y : O} {ps : Array Tmp} {ca cc : Code} {ma mc : MC} {st : List Fr} {Q : Exit → Act → World → Prop} (hx : cO x = some y)
    (HA:∀ (r:Nat) (Ga:Gh),Ga.nt=G.nt→Free Ga (asg ma)→∀ (st:List Fr) (s:S) (a:Act) (w:World) (Q:Exit→Act→World→Prop),vc P ma st s→SR Ga s a w→Kont P Ga st Q→ca.wpIn (FR (some r)) 0 P Q a w)
    (HC:∀ (r:Nat) (Ga:Gh),Ga.nt=G.nt→Free Ga (asg mc)→∀ (st:List Fr) (s:S) (a:Act) (w:World) (Q:Exit→Act→World→Prop),vc P mc st s→SR Ga s a w→Kont P Ga st Q→cc.wpIn (FR (some r)) 0 P Q a w)
    (hF:Free G (ps.toList++asg ma++asg mc)) (hL:∀ t,t ∈ ps.toList++asg ma++asg mc→t ∈ L) (hv:vc P (.rf L y ps.toList ma mc) st s0) (hs:SR G s0 a w) (hK:Kont P G st Q):(Code.rangeFunc x ps ca cc).wpIn (FR none) 0 P Q a w:=by
  rw [vc] at hv
  obtain ⟨s,vs,X,us,ms,Inv,x0,hgh,hit,hlen,hx0,hf0,hus,hrnd,hend⟩:=hv
  have husL:∀ x p,p ∈ us x→L.contains p.1=false:=fun x p hp=>by simpa using List.all_eq_true.1 (hus x) p hp
  obtain ⟨A0,β0,γ0,g0⟩:=hs
  obtain ⟨A,β,γ,g⟩:=hgh.sound g0
  clear g0 hgh
  -- the iterator
  have ex:=g.evalO hx
  unfold IterD at hit
  split at hit
  case h_2=>exact hit.elim
  next f ds hfd =>
  obtain ⟨hcl,hrun,hiter⟩:=hit
  rw [hfd] at ex
  obtain ⟨cs,hev,hn,hcs⟩ : ∃ cs,a.eval x=.func (.func f) #[] cs∧cs.size=ds.length∧∀ i,i<ds.length→CR w A (ds.getD i .junk) (cs.getD i undef):=by
    have h1:=ex.toC (by unfold D.cl;rw [alls_clo];exact hcl)
    generalize a.eval x=v at h1
    cases h1 with
    | clo f ds cs hn hr=>exact ⟨cs,rfl,hn,hr⟩
  obtain ⟨⟨Z,hZ1,hZ2,hZ3,hZ4⟩,hz⟩:=g.defers
  -- the record
  let l:=w.heap.size+1
  let rest:List (Nat × Obj):=(w.heap.size,defO)::((Z.map fun d=>(d,defO))++G.z)
  have hrlt:∀ p,p ∈ rest→p.1 ≠ l:=by
    intro p hp
    rcases List.mem_cons.1 hp with rfl|hp
    · exact Nat.ne_of_lt (Nat.lt_succ_self _)
    · rcases List.mem_append.1 hp with hp|hp
      · have:=lt_of_get (hZ4 p hp).2.2;exact Nat.ne_of_lt (by show p.1<w.heap.size+1;omega)
      · have:=lt_of_get (hz p hp).2.2;exact Nat.ne_of_lt (by show p.1<w.heap.size+1;omega)
  have hmz:∀ (o:Obj) (A':Nat→Prop) (w':World),Wch w' A' ((l,o)::rest)→Mz G.g.w0.heap.size a.defers w' A' ((l,o)::rest):=fun o A' w' h =>
    ⟨⟨Z,hZ1,hZ2,hZ3,fun p hp=>h p (by simp only [rest,List.mem_cons,List.mem_append];exact .inr (.inr (.inl hp)))⟩,h⟩
  rw [show FR none=Fence.wide from rfl]
  refine wpIn_rangeFunc fun fn _ => ?_
  let rec0:Loop:={ state:=.ready,pending:=none,fn:=fn,tmps:=a.tmps,params:=ps,assign:=ca,body:=cc,defers:=w.heap.size }
  let w1:World:=(w.alloc defO).alloc (.loop rec0)
  have hw1:w1.heap.size=w.heap.size+2:=by simp [w1]
  have hold:∀ k,k<w.heap.size→w1.heap[k]?=w.heap[k]?:=fun k hk=>by
    simp only [w1,World.alloc,Array.getElem?_push,Array.size_push]
    rw [if_neg (by omega),if_neg (by omega)]
  have hDw:w1.heap[w.heap.size]?=some defO:=by
    simp only [w1,World.alloc,Array.getElem?_push,Array.size_push]
    rw [if_neg (by omega)];simp
  have hlw:w1.heap[l]?=some (.loop rec0):=by
    have:=World.alloc_heap_new (w.alloc defO) (.loop rec0)
    rw [World.size_alloc] at this;exact this
  have hbel:Below w.heap.size w w1:=⟨rfl,rfl,rfl,by omega,hold⟩
  have gw:GR G s a w1 A β γ:=g.world hbel
  have hlow:∀ b,A b→b<w.heap.size:=g.hr.low
  let G1:Obj→Gh:=fun o=>{ G.loop s β [] with z:=(l,o)::rest }
  have hz1:Wch w1 A ((l,.loop rec0)::rest):=by
    refine Wch.cons (fun p hp => ?_) rfl (fun h=>absurd (hlow _ h) (by show ¬ (w.heap.size+1<w.heap.size);omega)) hlw
    rcases List.mem_cons.1 hp with rfl|hp
    · exact ⟨rfl,fun h=>absurd (hlow _ h) (Nat.lt_irrefl _),hDw⟩
    · have:Wch w A ((Z.map fun d=>(d,defO))++G.z):=fun p hp=>(List.mem_append.1 hp).elim (hZ4 p) (hz p)
      obtain ⟨q1,q2,q3⟩:=this p hp
      exact ⟨q1,q2,by rw [hold p.1 (lt_of_get q3)];exact q3⟩
  have gl:GR (G1 (.loop rec0)) s a w1 A β γ:=by
    have:=gw.loop []
    exact ⟨this.size,hmz _ _ _ hz1,this.hr,this.slots,this.keep⟩
  have hFF:∀ {o:Obj} {s':S} {a':Act} {w':World} {A':Nat→Prop} {β':Nat→Option Nat} {γ':Nat→Option (Nat × List Nat)},GR (G1 o) s' a' w' A' β' γ'→∀ τ,(τ<s.N∧isFix (s.M τ)=true)→τ<s'.N∧β' τ=β τ:=fun g' τ h =>
    ⟨Nat.lt_of_lt_of_le h.1 g'.hr.ge,(g'.hr.fixd τ (.inr h)).1⟩
  have gh0:GR (G1 (.loop rec0)) (s.rnd (us x0) (ms x0)) a w1 A β γ:=GR.head (s:=s) (asgL:=[]) (ups:=us x0) (ms:=ms x0) gl rfl hf0 (hFF gl) (fun t h=>.inr ⟨h,rfl⟩)
  let I:Nat→(Nat→Prop)→World→Prop:=fun k O W => ∃ x A' β' γ',Inv k x∧GR (G1 (.loop rec0)) (s.rnd (us x) (ms x)) a W A' β' γ'∧(∀ b,A b→A' b)∧∀ b,O b ↔ Obs A' γ' (s.rnd (us x) (ms x)) ((l,.loop rec0)::rest) b
  let Ix:(Nat→Prop)→World→Prop:=fun O W => ∃ (c:Code) (e:Ex) (s2:S) (A':Nat→Prop) (β':Nat→Option Nat) (γ':Nat→Option (Nat × List Nat)),((c=.ret∧e=.ret) ∨ ∃ i,c=.exit i∧e=.exit i)∧rs P e st (s.jmp s2 L) ∧
    GR (G1 (.loop { rec0 with state:=.done,pending:=some c })) (s.jmp s2 L) a W A' β' γ'∧∀ b,O b ↔ Obs A' γ' (s.jmp s2 L) ((l,.loop { rec0 with state:=.done,pending:=some c })::rest) b
  have hcall:CallsIn Fence.wide 0 P f (#[.func (.yield l) #[] #[]]++cs) w1 fun e W'=>(∃ v,e=.returned v)∧((∃ O,I vs.length O W') ∨ ∃ O,Ix O W'):=by
    refine hiter w1 A cs (fun b hb=>by have:=hlow b hb;omega) hn (fun i hi=>(hcs i hi).mono (fun b hb=>hold b (hlow b hb)) (fun _ h=>h)) l I Ix (Obs A γ (s.rnd (us x0) (ms x0)) ((l,.loop rec0)::rest)) ?_ ?_ ?_ ?_ ⟨x0,A,β,γ,hx0,gh0,fun _ h=>h,fun _=>Iff.rfl⟩ (fun b hb=>.inl hb) ?_
    · rintro k O W W' ⟨x,A',β',γ',hx,g',hAA,hO⟩ hk
      exact ⟨x,A',β',γ',hx,g'.stay hO (Nat.le_trans g.hr.below.size hbel.size) hk (hmz _),hAA,hO⟩
    · rintro O W W' ⟨c,e,s2,A',β',γ',hc,hr,g',hO⟩ hk
      exact ⟨c,e,s2,A',β',γ',hc,hr,g'.stay hO (Nat.le_trans g.hr.below.size hbel.size) hk (hmz _),hO⟩
    · rintro k O W ⟨x,A',β',γ',hx,g',hAA,hO⟩ b hb
      rcases (hO b).1 hb with h|⟨τ,π,e1,e2,e3⟩|⟨o,h⟩
      · exact g'.hr.low b h
      · exact (g'.hr.own b τ π e1 e2 e3).1
      · exact lt_of_get (g'.defers.2 _ h).2.2
    · rintro k O W Y args hkl ⟨x,A',β',γ',hx,g',hAA,hO⟩ hYlt hYA hsz hcr
      have hzW:=g'.defers.2
      have hlk:W.heap[l]?=some (.loop rec0):=(hzW _ (List.mem_cons_self)).2.2
      have hlA:¬ A' l:=(hzW _ (List.mem_cons_self)).2.1
      have hrow:(vs.getD k []).length=ps.toList.length:=hlen _ (getD_mem hkl)
      have hsub:∀ b,A b→(A' b∨Y b):=fun b h=>.inl (hAA b h)
      have hwle:G.g.w0.heap.size≤w.heap.size:=g.hr.below.size
      have hY:∀ b,Y b→b<W.heap.size∧(A' b∨(¬ Lv γ' (s.rnd (us x) (ms x)) b∧∀ p,p ∈ ((l,Obj.loop rec0)::rest)→p.1 ≠ b)):=fun b hb=>by
        refine ⟨hYlt b hb,?_⟩
        rcases hYA b hb with h|⟨_,h⟩
        · exact .inl (hAA b h)
        · exact .inr ⟨fun h'=>h ((hO b).2 (.inr (.inl h'))),fun p hp e=>h ((hO b).2 (.inr (.inr ⟨p.2,by rw [← e];exact hp⟩)))⟩
      have hYu:∀ b,Y b→A' b∨G.g.w0.heap.size≤b:=fun b hb=>by
        rcases hYA b hb with h|⟨h,_⟩
        · exact .inl (hAA b h)
        · exact .inr (by omega)
      have hlu:G.g.w0.heap.size≤l∨G.g.O0 l:=.inl (by show _≤w.heap.size+1;omega)
      have hpsz:∀ p,p ∈ ps.toList→p<a.tmps.size:=fun p hp=>by rw [g.size];exact (hF p (by simp [hp])).1
      obtain ⟨t1,t2,t3,t4,t5⟩:=putL_slots (w:=W) (A:=fun b=>A' b∨Y b) (β:=β') (N:=s.N) ps.toList (vs.getD k []) args.toList (s.rnd (us x) (ms x)) a.tmps (by rw [hsz.symm];simp) (fun i hi=>by
          have:=(hcr i (by omega)).mono (A':=fun b=>A' b∨Y b) (fun _ _=>rfl) (fun b h=>h.elim (fun h=>.inl (hAA b h)) .inr)
          refine .cl _ _ ?_
          have e:args.toList.getD i undef=args.getD i undef:=by simp [List.getD,Array.getD_eq_getD_getElem?]
          rw [e];exact this) hpsz (fun t=>(g'.slots t).mono (fun _ _=>rfl) (fun _ h=>.inl h) (Shp.refl _) (Nat.le_refl _) (fun _ _=>rfl))
      have hfold:(ps.zip args).foldl (fun tmps (t,a)=>tmps.setIfInBounds t a) a.tmps=(ps.toList.zip args.toList).foldl (fun tmps (x:Nat × Value)=>tmps.setIfInBounds x.1 x.2) a.tmps:=by
        rw [← Array.foldl_toList,Array.toList_zip]
      let Gr:Obj→Gh:=fun o=>⟨{ w0:=W,A0:=fun b=>A' b∨Y b,O0:=fun b=>Lv γ' (s.rnd (us x) (ms x)) b∨b=l,n0:=s.N,β0:=β,F:=(G.loop s β []).g.F },G.nt,fun t y=>L.contains t=false∧y=⟨β,(G.loop s β []).g.F,.v (a.tmps.getD t undef)⟩,(l,o)::rest⟩
      have gR:GR (Gr (.loop rec0)) _ _ W (fun b=>A' b∨Y b) β' γ':=GR.rebase (z':=(l,.loop rec0)::rest) l g' t3 t4 hY hzW (by rw [t1];exact g.size) t2 (fun t y hy=>by
        obtain ⟨h1,rfl⟩:=hy
        rw [t5 t fun h=>by
          have:=hL t (by simp [h])
          have h2:L.contains t=true:=by simpa using this
          rw [h1] at h2;cases h2]
        exact .cl _ _ (.v _))
      -- what a round leaves
      have hpost:∀ {o o':Obj} {s' s2:S} {a':Act} {w2:World} {A2:Nat→Prop} {β2:Nat→Option Nat} {γ2:Nat→Option (Nat × List Nat)},oth o=true→oth o'=true→(∃ r,o=.loop r) →
          GR (Gr o) s' a' w2 A2 β2 γ2 →
          s2=s.jmp s' L→GR (G1 o') s2 a (w2.putObj l o') A2 β2 γ2∧Kpt (fun b=>¬ O b∨A b) W (w2.putObj l o')∧(∀ b,A b→A2 b)∧∀ b,Obs A2 γ2 s2 ((l,o')::rest) b→O b∨Y b∨W.heap.size≤b:=by
        rintro o o' s' s2 a' w2 A2 β2 γ2 ho ho' ⟨r,rfl⟩ g2 rfl
        have hz2:=g2.defers.2
        have hl2:=(hz2 _ (List.mem_cons_self)).2.2
        have hlA2:=(hz2 _ (List.mem_cons_self)).2.1
        have hzr:Wch (w2.putObj l o') A2 ((l,o')::rest):=Wch.cons (Wch.put (fun p hp=>hz2 p (List.mem_cons_of_mem _ hp)) hrlt) ho' hlA2 (World.putObj_heap_same (lt_of_get hl2))
        have g3:=g2.putRec (o:=o') (a':=a') (z':=(l,o')::rest) rfl hl2 rfl (shp_put hl2) hlA2 (.inr (.inr rfl)) ⟨(by
          obtain ⟨⟨Z',e1,e2,e3,e4⟩,_⟩:=g2.defers
          refine ⟨Z',e1,e2,e3,Wch.put e4 fun p hp e => ?_⟩
          have:=(e4 p hp).2.2
          rw [e,hl2] at this
          obtain ⟨d,_,rfl⟩:=List.mem_map.1 hp
          cases this),hzr⟩
        have g4:=GR.unrebase (s2:=s.jmp s' L) (z'':=(l,o')::rest) g' hlu hlA hYu g3 (hmz _ _ _ hzr) rfl rfl (fun t=>by
          cases hLt:L.contains t with
          | true =>
            left
            exact ⟨_,.inr ⟨rfl,rfl⟩,by show jmpD (L.contains t) s s' t=_;rw [hLt];rfl,fun τ h=>⟨Nat.lt_of_lt_of_le h.1 g3.hr.ge,(g3.hr.fixd τ (.inr h)).1⟩⟩
          | false =>
            right
            have e:=kr_v (g3.keep t _ ⟨hLt,rfl⟩)
            have:=g3.slots t
            rw [e] at this
            show DR _ _ _ _ (jmpD (L.contains t) s s' t) _
            rw [hLt];exact this)
        have hOb:∀ b,(Lv γ' (s.rnd (us x) (ms x)) b∨b=l)→O b:=fun b h=>by
          rcases h with h|rfl
          · exact (hO b).2 (.inr (.inl h))
          · exact (hO _).2 (.inr (.inr ⟨_,List.mem_cons_self⟩))
        refine ⟨g4,⟨g3.hr.below.os,g3.hr.below.tape,g3.hr.below.output,g3.hr.below.size,fun b hb h=>g3.hr.below.block b hb fun h' => ?_,g3.hr.below.shp⟩,fun b hb=>g3.hr.sub b (.inl (hAA b hb)),fun b hb => ?_⟩
        · rcases h with h|h
          · exact h (hOb b h')
          · rcases h' with ⟨τ,π,e1,e2,e3⟩|rfl
            · exact (g'.hr.own b τ π e1 e2 e3).2.1 (hAA b h)
            · exact hlA (hAA _ h)
        · rcases hb with h|⟨τ,π,e1,e2,e3⟩|⟨q,hq⟩
          · rcases g3.hr.up b h with (h|h)|h|h
            · exact .inl ((hO b).2 (.inl h))
            · exact .inr (.inl h)
            · exact .inl (hOb b h)
            · exact .inr (.inr h)
          · rcases (g3.hr.own b τ π e1 e2 e3).2.2.1 with h|h
            · exact .inr (.inr h)
            · exact .inl (hOb b h)
          · left
            rcases List.mem_cons.1 hq with h|h
            · cases h;exact hOb _ (.inr rfl)
            · exact (hO b).2 (.inr (.inr ⟨q,List.mem_cons_of_mem _ h⟩))
      have hleave:∀ (c:Code) (e:Ex) (s2:S) (a2:Act) (w2:World),((c=.ret∧e=.ret) ∨ ∃ i,c=.exit i∧e=.exit i)→rs P e st (s.jmp s2 L) →
          SR (Gr (.loop { rec0 with state:=.busy })) s2 a2 w2 →
          ∃ v w',(Instr.endRound l (some c)).run P w2=.ok v w'∧(fun e W'=>Kpt (fun b=>¬ O b∨A b) W W'∧((e=.returned (.bool true) ∧ ∃ O',I (k+1) O' W'∧∀ b,O' b→O b∨Y b∨W.heap.size≤b)∨(e=.returned (.bool false) ∧ ∃ O',Ix O' W'∧∀ b,O' b→O b∨Y b∨W.heap.size≤b))) (Ending.returned v) w':=by
        rintro c e s2 a2 w2 hc hr ⟨A2,β2,γ2,g2⟩
        have hl2:=(g2.defers.2 _ (List.mem_cons_self)).2.2
        obtain ⟨p1,p2,p3,p4⟩:=hpost (o':=.loop { rec0 with state:=.done,pending:=some c }) rfl rfl ⟨_,rfl⟩ g2 rfl
        exact ⟨_,_,run_endRound (some c) hl2,p2,.inr ⟨rfl,_,⟨c,e,s2,A2,β2,γ2,hc,hr,p1,fun _=>Iff.rfl⟩,p4⟩⟩
      refine ⟨fn,_,ca,cc,run_yield hlk (by rw [hsz,hrow];simp [rec0]),roundIn_of_wpIn (F:=Fence.wide) trivial ?_⟩
      show ca.wpIn (FR (some l)) 0 P _ { tmps:=(ps.zip args).foldl (fun tmps (t,a)=>tmps.setIfInBounds t a) a.tmps,defers:=[] } W
      rw [hfold]
      refine HA l (Gr (.loop rec0)) rfl (fun t ht=>⟨(hF t (by simp [ht])).1,fun y hy=>by
          have:=hL t (by simp [ht])
          have h2:L.contains t=true:=by simpa using this
          rw [hy.1] at h2;cases h2⟩) _ _ _ _ _ (hrnd k x hkl hx) ⟨_,_,_,gR⟩ (fun e s1 a1 W1 hr hs1 => ?_)
      cases e with
      | exit i=>simp only [rs] at hr
      | ret=>simp only [rs] at hr
      | nrm =>
        simp only [rs] at hr
        obtain ⟨A1,β1,γ1,g1⟩:=hs1
        have hz1:=g1.defers.2
        have hl1:=(hz1 _ (List.mem_cons_self)).2.2
        have hlA1:=(hz1 _ (List.mem_cons_self)).2.1
        refine ⟨_,run_beginRound hl1 rfl,?_⟩
        have gB:=g1.putRec (o:=.loop { rec0 with state:=.busy }) (a':=a1) (z':=(l,.loop { rec0 with state:=.busy })::rest) rfl hl1 rfl (shp_put hl1) hlA1 (.inr (.inr rfl)) ⟨(by
          obtain ⟨⟨Z',e1,e2,e3,e4⟩,_⟩:=g1.defers
          refine ⟨Z',e1,e2,e3,Wch.put e4 fun p hp e => ?_⟩
          have:=(e4 p hp).2.2
          rw [e,hl1] at this
          obtain ⟨d,_,rfl⟩:=List.mem_map.1 hp
          cases this),Wch.cons (Wch.put (fun p hp=>hz1 p (List.mem_cons_of_mem _ hp)) hrlt) rfl hlA1 (World.putObj_heap_same (lt_of_get hl1))⟩
        show cc.wpIn (FR (some l)) 0 P _ a1 (W1.putObj l (.loop { rec0 with state:=.busy }))
        refine HC l (Gr (.loop { rec0 with state:=.busy })) rfl (fun t ht=>⟨(hF t (by simp [ht])).1,fun y hy=>by
          have:=hL t (by simp [ht])
          have h2:L.contains t=true:=by simpa using this
          rw [hy.1] at h2;cases h2⟩) _ _ _ _ _ hr ⟨_,_,_,gB⟩ (fun e s2 a2 W2 hr2 hs2 => ?_)
        cases e with
        | nrm =>
          simp only [rs] at hr2
          obtain ⟨s2',hg2,hn2,x',hx',hfit⟩:=hr2
          obtain ⟨A2,β2,γ2,g2⟩:=hs2
          obtain ⟨A3,β3,γ3,g3⟩:=hg2.sound g2
          have g4:=g3.trim hn2 (Nat.le_refl _)
          have hl2:=(g4.defers.2 _ (List.mem_cons_self)).2.2
          obtain ⟨p1,p2,p3,p4⟩:=hpost (o':=.loop rec0) rfl rfl ⟨_,rfl⟩ g4 rfl
          have hM:∀ τ ob,(s.rnd (us x') (ms x')).M τ=some ob→(s2'.trim s.N).M τ=some ob:=fun τ ob h=>hfit.2 _ (look_mem h)
          have hfj:Fits (s.jmp (s2'.trim s.N) L) (us x') (ms x'):=⟨fun p hp=>by
            show jmpD (L.contains p.1) s _ p.1=_
            rw [husL x' p hp];exact hfit.1 p hp,hfit.2⟩
          have p0:GR (G1 (.loop rec0)) (s.rnd (us x') (ms x')) a _ A3 β3 γ3:=GR.head (s:=s) (asgL:=[]) (ups:=us x') (ms:=ms x') p1 rfl hfj (fun τ h=>⟨h.1,(hFF p1 τ h).2⟩) (fun t h=>.inr ⟨h,rfl⟩)
          refine ⟨_,_,run_endRound none hl2,p2,.inl ⟨rfl,Obs A3 γ3 (s.rnd (us x') (ms x')) ((l,.loop rec0)::rest),⟨x',A3,β3,γ3,hx',p0,p3,fun _=>Iff.rfl⟩,fun b hb=>p4 b ?_⟩⟩
          rcases hb with h|⟨τ,π,e1,e2,e3⟩|h
          · exact .inl h
          · refine .inr (.inl ⟨τ,π,e1,e2,fun e => ?_⟩)
            obtain ⟨ob,hob⟩:=Option.ne_none_iff_exists'.1 e3
            have:=hM τ ob hob
            rw [show (s2'.trim s.N).M τ=none from e] at this;cases this
          · exact .inr (.inr h)
        | exit i=>simp only [rs] at hr2;exact hleave (.exit i) (.exit i) s2 a2 W2 (.inr ⟨i,rfl,rfl⟩) hr2 hs2
        | ret=>simp only [rs] at hr2;exact hleave .ret .ret s2 a2 W2 (.inl ⟨rfl,rfl⟩) hr2 hs2
    · rintro b (h|⟨τ,π,e1,e2,e3⟩|⟨o,h⟩)
      · have:=hlow b h;omega
      · exact (gh0.hr.own b τ π e1 e2 e3).1
      · exact lt_of_get (hz1 _ h).2.2
  -- behind the loop
  have hfin:∀ (o:Obj) (r:Loop) (s2:S) (W:World) (A':Nat→Prop) (β':Nat→Option Nat) (γ':Nat→Option (Nat × List Nat)),o=.loop r→GR (G1 o) s2 a W A' β' γ'→GR G s2 { a with defers:=[mkD w.heap.size]++a.defers } (W.putObj l (.loop { r with state:=.exhausted })) A' β' γ':=by
    rintro o r s2 W A' β' γ' rfl g'
    have hz':=g'.defers.2
    have hl':=(hz' _ (List.mem_cons_self)).2.2
    have hlA:=(hz' _ (List.mem_cons_self)).2.1
    have hzr:Wch (W.putObj l (.loop { r with state:=.exhausted })) A' rest:=Wch.put (fun p hp=>hz' p (List.mem_cons_of_mem _ hp)) hrlt
    have hwle:G.g.w0.heap.size≤w.heap.size:=g.hr.below.size
    have g2:=g'.putRec (o:=.loop { r with state:=.exhausted }) (a':={ a with defers:=[mkD w.heap.size]++a.defers }) (z':=G.z) rfl hl' rfl (shp_put hl') hlA (.inl (show G.g.w0.heap.size≤w.heap.size+1 by omega))
      ⟨⟨w.heap.size::Z,by simp [hZ1],List.nodup_cons.2 ⟨fun h=>by
        have:=lt_of_get (hZ4 (w.heap.size,defO) (List.mem_map.2 ⟨_,h,rfl⟩)).2.2
        exact Nat.lt_irrefl _ this,hZ2⟩,fun d hd=>by
          rcases List.mem_cons.1 hd with rfl|h
          · exact hwle
          · exact hZ3 d h,fun p hp=>hzr p (by
          rcases List.mem_cons.1 hp with rfl|h
          · exact List.mem_cons_self
          · exact List.mem_cons_of_mem _ (List.mem_append_left _ h))⟩,fun p hp=>hzr p (List.mem_cons_of_mem _ (List.mem_append_right _ hp))⟩
    exact GR.unloop g g2
  have hcall':CallsIn Fence.wide 0 P f (#[.func (.yield l) #[] #[]]++cs) w1 (rangePost Fence.wide 0 P l Q { a with defers:=[mkD w.heap.size]++a.defers }):=by
    refine CallsIn.mono hcall ?_
    rintro e W' ⟨⟨v,rfl⟩,⟨O,x,A',β',γ',hx,g',_,_⟩|⟨O,c,e,s2,A',β',γ',hc,hr,g',_⟩⟩
    · have hl':=(g'.defers.2 _ (List.mem_cons_self)).2.2
      exact ⟨none,_,run_endLoop hl' (by simp [rec0]),hK .nrm _ _ _ (hend x hx) ⟨_,_,_,hfin _ _ _ _ _ _ _ rfl g'⟩⟩
    · have hl':=(g'.defers.2 _ (List.mem_cons_self)).2.2
      have hk:=hK e _ _ _ hr ⟨_,_,_,hfin _ _ _ _ _ _ _ rfl g'⟩
      refine ⟨some c,_,run_endLoop hl' (by simp),?_⟩
      rcases hc with ⟨rfl,rfl⟩|⟨i,rfl,rfl⟩
      · exact wpIn_ret hk
      · exact wpIn_exit hk
  have hres:(resolve a.eval (rangeCall x l) 0).run P w1=.ok { target:=.fn (.func f) cs,args := #[.func (.yield l) #[] #[]] } w1:=by
    simp only [resolve,rangeCall,hev]
    simp [Deferred.ofValue,Act.eval]
  exact ⟨l,[mkD w.heap.size],w1,_,w1,f,_,w1,run_enterLoop_outer fn a.tmps ps ca cc,hres,fun _ _=>trivial,hrun _ _,fun h=>(by cases h),hcall'⟩
end
end Go.Dm

namespace Go.Dm
open Go.RowKit
section
variable {P:Program} {G:Gh} {s:S} {a:Act} {w:World} {A:Nat→Prop} {β:Nat→Option Nat} {γ:Nat→Option (Nat × List Nat)}
def onlyN (Q:Exit→Act→World→Prop):Exit→Act→World→Prop
  | .normal,a,w=>Q .normal a w
  | _,_,_=>False
theorem RegA.wpN {ops:Array Oper} {id:Nat} {draw:Bool} {Q:Exit→Act→World→Prop} {r:Option Nat} (hmix:P.follows .mixedOrders=true) (hnd:r=none∨plainC (.region id ops draw)=true)
    (h:RegA P ops draw (onlyN Q) a w):(Code.region id ops draw).wpIn (FR r) 0 P Q a w:=by
  refine wpIn_mono (RegA.wp hmix (hnd.imp (fun h=>h) fun h o ho c e => ?_) (fun ⟨_,_,h⟩=>h) h) (fun e a w h => ?_)
  · unfold plainC at h
    have:=List.all_eq_true.1 h o ho
    rw [e] at this;cases this
  · cases e<;>first|exact h|exact h.elim
theorem code_sound (hmix : P.follows .mixedOrders = true) (nt : Nat) : ∀ (c : Code) (m : MC), cC P nt c = some m → ∀ (r : Option Nat), (r = none ∨ plainC c = true) → ∀ (G : Gh), G.nt = nt → Free G (asg m) → ∀ (st : List Fr) (s : S) (a : Act) (w : World) (Q : Exit → Act → World → Prop), vc P m st s → SR G s a w → Kont P G st Q → c.wpIn (FR r) 0 P Q a w
  | .skip,m,hc,r,hro,G,hG,hF,st,s,a,w,Q,hv,hs,hK=>by
    simp only [cC,Option.some.injEq] at hc;subst hc
    rw [vc] at hv
    exact wpIn_skip (hK .nrm s a w hv hs)
  | .exit id,m,hc,r,hro,G,hG,hF,st,s,a,w,Q,hv,hs,hK=>by
    simp only [cC,Option.some.injEq] at hc;subst hc
    rw [vc] at hv
    exact wpIn_exit (hK (.exit id) s a w hv hs)
  | .ret,m,hc,r,hro,G,hG,hF,st,s,a,w,Q,hv,hs,hK=>by
    simp only [cC,Option.some.injEq] at hc;subst hc
    rw [vc] at hv
    exact wpIn_ret (hK .ret s a w hv hs)
  | .region id ops draw, m, hc, r, hro, G, hG, hF, st, s, a, w, Q, hv, hs, hK => by
    have hc0:=hc
    simp only [cC,Option.bind_eq_bind,Option.bind_eq_some_iff] at hc
    obtain ⟨l0,h1,hc⟩:=hc
    have hm : (∃ q l, m = .reg q l) ∨ (draw = true ∧ m = .dreg (dedup (asgOps l0)) (tr1 P ops l0) (treeT ops (l0.map Op1.toP))) := by
      split at hc
      · next hdr =>
        split at hc
        · simp only [Option.pure_def,Option.some.injEq] at hc;exact .inl ⟨_,_,hc.symm⟩
        · split at hc
          · simp only [Option.pure_def,Option.some.injEq] at hc;exact .inl ⟨_,_,hc.symm⟩
          · split at hc
            · simp only [Option.pure_def,Option.some.injEq] at hc;exact .inl ⟨_,_,hc.symm⟩
            · split at hc
              · simp only [Option.pure_def,Option.some.injEq] at hc;exact .inl ⟨_,_,hc.symm⟩
              · simp only [Option.pure_def,Option.some.injEq] at hc;exact .inr ⟨hdr,hc.symm⟩
      · simp only [Option.pure_def,Option.some.injEq] at hc
        exact .inl ⟨0,l0,hc.symm⟩
    rcases hm with ⟨q,l,rfl⟩|⟨rfl,rfl⟩
    · rw [vc] at hv
      subst hG
      exact RegA.wpN hmix hro<|region_sound hmix hc0 hF ⟨q,l,rfl,hv⟩ hs (fun s' a' w' hk hs'=>hK .nrm s' a' w' hk hs')
    · rw [vc] at hv
      subst hG
      have hF0:Free G (asgOps l0):=fun t ht=>hF t (mem_dedup _ _ ht)
      -- an order that ends in a cut
      have cut:∀ tp:Bool,CutVC P (dedup (asgOps l0)) (trB P tp ops l0) (rs P .nrm st) s→RegA P ops true (onlyN Q) a w:=by
        rintro tp ⟨s1,X,ups,ms,Inv,n,hgh,hn,hvt,hrest⟩
        obtain ⟨A0,β0,γ0,g0⟩:=hs
        obtain ⟨A,β,γ,g⟩:=hgh.sound g0
        have gG:=g.loop (dedup (asgOps l0))
        have hF':Free (G.loop s1 β (dedup (asgOps l0))) (asgOps l0):=by
          intro t ht
          have hd:=mem_dedup _ _ ht
          refine ⟨(hF0 t ht).1,fun y hy => ?_⟩
          rcases hy with h|⟨h,_⟩
          · exact (hF0 t ht).2 y h
          · have:(dedup (asgOps l0)).contains t=true:=by simpa using hd
            rw [this] at h;cases h
        refine region_trB (G:=G.loop s1 β (dedup (asgOps l0))) tp hmix h1 hF' hvt ⟨A,β,γ,gG⟩ (fun s' a' w' hk hs' => ?_)
        obtain ⟨s2,hg2,hn2,x',hx',hfit⟩:=hk
        obtain ⟨A',β',γ',g'⟩:=hs'
        obtain ⟨A1,β1,γ1,g1⟩:=hg2.sound g'
        have g2:=g1.trim hn2 (show s1.N≤n from hn)
        have hfx:∀ τ,(τ<s1.N∧isFix (s1.M τ)=true)→τ<n∧β1 τ=β τ:=fun τ hτ=>⟨Nat.lt_of_lt_of_le hτ.1 hn,(g2.hr.fixd τ (.inr hτ)).1⟩
        have g3:=g2.headN (n:=n) rfl hfit hfx (fun t h=>.inr ⟨h,rfl⟩)
        exact hK .nrm _ a' w' (hrest x' hx') ⟨A1,β1,γ1,GR.unloop g g3⟩
      have dir:∀ tp:Bool,vcT P (trB P tp ops l0) (rs P .nrm st) s→RegA P ops true (onlyN Q) a w:=fun tp h =>
        region_trB tp hmix h1 hF0 h hs (fun s' a' w' hk hs'=>hK .nrm s' a' w' hk hs')
      refine RegA.wpN hmix hro ?_
      rcases hv with h|h|h|h
      · exact dir false h
      · exact dir true h
      · exact cut false h
      · exact cut true h
  | .seq x y,m,hc,r,hro,G,hG,hF,st,s,a,w,Q,hv,hs,hK=>by
    simp only [cC,Option.bind_eq_bind,Option.bind_eq_some_iff,Option.pure_def,Option.some.injEq] at hc
    obtain ⟨mx,h1,my,h2,rfl⟩:=hc
    rw [vc] at hv
    have Fx:Free G (asg mx):=fun t ht=>hF t (by simp [asg,ht])
    have Fy:Free G (asg my):=fun t ht=>hF t (by simp [asg,ht])
    refine wpIn_seq (code_sound hmix nt x mx h1 r (hro.imp (fun h=>h) fun h=>by rw [plainC,Bool.and_eq_true] at h;exact h.1) G hG Fx (.s my::st) s a w _ hv hs (fun e s' a' w' hr hs' => ?_))
    cases e with
    | nrm=>rw [rs] at hr;exact code_sound hmix nt y my h2 r (hro.imp (fun h=>h) fun h=>by rw [plainC,Bool.and_eq_true] at h;exact h.2) G hG Fy st s' a' w' Q hr hs' hK
    | exit i=>rw [rs] at hr;exact hK (.exit i) s' a' w' hr hs'
    | ret=>rw [rs] at hr;exact hK .ret s' a' w' hr hs'
  | .cond x p q,m,hc,r,hro,G,hG,hF,st,s,a,w,Q,hv,hs,hK=>by
    simp only [cC,Option.bind_eq_bind,Option.bind_eq_some_iff,Option.pure_def,Option.some.injEq] at hc
    obtain ⟨x',h0,mp,h1,mq,h2,rfl⟩:=hc
    rw [vc] at hv
    have Fp:Free G (asg mp):=fun t ht=>hF t (by simp [asg,ht])
    have Fq:Free G (asg mq):=fun t ht=>hF t (by simp [asg,ht])
    obtain ⟨A,β,γ,g⟩:=hs
    unfold kCond at hv
    split at hv
    · next b hb =>
      have ev:=g.evalO h0
      rw [hb] at ev
      refine wpIn_cond (dr_bool ev) ?_
      cases b with
      | true=>exact code_sound hmix nt p mp h1 r (hro.imp (fun h=>h) fun h=>by rw [plainC,Bool.and_eq_true] at h;exact h.1) G hG Fp st s a w Q (hv.1 rfl) ⟨A,β,γ,g⟩ hK
      | false=>exact code_sound hmix nt q mq h2 r (hro.imp (fun h=>h) fun h=>by rw [plainC,Bool.and_eq_true] at h;exact h.2) G hG Fq st s a w Q (hv.2 rfl) ⟨A,β,γ,g⟩ hK
    · exact hv.elim
  | .block id c,m,hc,r,hro,G,hG,hF,st,s,a,w,Q,hv,hs,hK=>by
    simp only [cC,Option.bind_eq_bind,Option.bind_eq_some_iff,Option.pure_def,Option.some.injEq] at hc
    obtain ⟨mc,h1,rfl⟩:=hc
    rw [vc] at hv
    refine wpIn_block (code_sound hmix nt c mc h1 r (hro.imp (fun h=>h) fun h=>by rw [plainC] at h;exact h) G hG (fun t ht=>hF t ht) (.b id::st) s a w _ hv hs (fun e s' a' w' hr hs' => ?_))
    cases e with
    | nrm=>rw [rs] at hr;exact hK .nrm s' a' w' hr hs'
    | exit i =>
      rw [rs] at hr
      show (if i=id then Q .normal a' w' else Q (.exit i) a' w')
      by_cases h:i=id
      · rw [if_pos h] at hr ⊢;exact hK .nrm s' a' w' hr hs'
      · rw [if_neg h] at hr ⊢;exact hK (.exit i) s' a' w' hr hs'
    | ret=>rw [rs] at hr;exact hK .ret s' a' w' hr hs'
  | .loop c,m,hc,r,hro,G,hG,hF,st,s0,a,w,Q,hv,hs,hK=>by
    simp only [cC,Option.bind_eq_bind,Option.bind_eq_some_iff,Option.pure_def,Option.some.injEq] at hc
    obtain ⟨mc,h1,rfl⟩:=hc
    rw [vc] at hv
    obtain ⟨s,X,ups,ms,μ,Inv,x0,hgh,hx0,hf0,hr0⟩:=hv
    obtain ⟨A0,β0,γ0,g0⟩:=hs
    obtain ⟨A,β,γ,g⟩:=hgh.sound g0
    have gG:=g.loop (dedup (asg mc))
    have hkeep:∀ t,(dedup (asg mc)).contains t=false→(G.loop s β (dedup (asg mc))).T t ⟨β,fun τ=>τ<s.N∧isFix (s.M τ)=true,(s.ρ t).keep s⟩:=fun t h=>.inr ⟨h,rfl⟩
    have hF':Free (G.loop s β (dedup (asg mc))) (asg mc):=by
      intro t ht
      have hd:=mem_dedup _ _ ht
      refine ⟨(hF t hd).1,fun y hy => ?_⟩
      rcases hy with h|⟨h,_⟩
      · exact (hF t hd).2 y h
      · have:(dedup (asg mc)).contains t=true:=by simpa using hd
        rw [this] at h;cases h
    have hfix:∀ {s':S} {a':Act} {w':World} {A':Nat→Prop} {β':Nat→Option Nat} {γ':Nat→Option (Nat × List Nat)},GR (G.loop s β (dedup (asg mc))) s' a' w' A' β' γ'→∀ τ,(τ<s.N∧isFix (s.M τ)=true)→τ<s.N∧β' τ=β τ:=fun g' τ h=>⟨h.1,(g'.hr.fixd τ (.inr h)).1⟩
    have back:∀ e s' a' w',rs P e st s'→SR (G.loop s β (dedup (asg mc))) s' a' w'→Q (toX e) a' w':=fun e s' a' w' hr ⟨A',β',γ',g'⟩=>hK e s' a' w' hr ⟨A',β',γ',g.unloop g'⟩
    refine wpIn_loop_n (fun n a w => ∃ x,Inv x∧μ x=n∧SR (G.loop s β (dedup (asg mc))) (s.head (dedup (asg mc)) (ups x) (ms x)) a w) (n:=μ x0) (fun n a1 w1 hI => ?_) ⟨x0,hx0,rfl,A,β,γ,gG.head rfl hf0 (hfix gG) hkeep⟩
    obtain ⟨x,hx,rfl,hsx⟩:=hI
    refine code_sound hmix nt c mc h1 r (hro.imp (fun h=>h) fun h=>by rw [plainC] at h;exact h) (G.loop s β (dedup (asg mc))) hG hF' _ _ a1 w1 _ (hr0 x hx) hsx (fun e s' a' w' hr hs' => ?_)
    cases e with
    | nrm =>
      rw [rs] at hr
      obtain ⟨s1,hg1,hn,x',hx',hm,hfit⟩:=hr
      obtain ⟨A',β',γ',g'⟩:=hs'
      obtain ⟨A1,β1,γ1,g1⟩:=hg1.sound g'
      have g2:=g1.trim hn (Nat.le_refl _)
      exact ⟨μ x',hm,x',hx',rfl,A1,β1,γ1,g2.head rfl hfit (hfix g2) hkeep⟩
    | exit i=>rw [rs] at hr;exact back (.exit i) s' a' w' hr hs'
    | ret=>rw [rs] at hr;exact back .ret s' a' w' hr hs'
  | .rangeFunc g ps ca cc,m,hc,r,hro,G,hG,hF,st,s,a,w,Q,hv,hs,hK=>by
    rw [cC] at hc
    split at hc
    · next hpl =>
      simp only [Bool.and_eq_true] at hpl
      simp only [Option.bind_eq_bind,Option.bind_eq_some_iff,Option.pure_def,Option.some.injEq] at hc
      obtain ⟨y,hy,ma,h1,mc,h2,rfl⟩:=hc
      rcases hro with rfl|h
      · exact rf_sound hy (fun r Ga hn hfr st s a w Q hv hs hK=>code_sound hmix nt ca ma h1 (some r) (.inr hpl.1) Ga (hn.trans hG) hfr st s a w Q hv hs hK)
          (fun r Ga hn hfr st s a w Q hv hs hK=>code_sound hmix nt cc mc h2 (some r) (.inr hpl.2) Ga (hn.trans hG) hfr st s a w Q hv hs hK) (fun t ht=>hF t (by simpa [asg] using ht)) (fun t ht=>mem_dedup _ _ ht) hv hs hK
      · rw [plainC] at h;cases h
    · simp only [Option.some.injEq] at hc;subst hc;rw [vc] at hv;exact hv.elim
  | .scope ..,m,hc,_,_,_,_,_,st,s,a,w,Q,hv,_,_=>by simp only [cC,Option.some.injEq] at hc;subst hc;rw [vc] at hv;exact hv.elim
  | .label ..,m,hc,_,_,_,_,_,st,s,a,w,Q,hv,_,_=>by simp only [cC,Option.some.injEq] at hc;subst hc;rw [vc] at hv;exact hv.elim
  | .goto ..,m,hc,_,_,_,_,_,st,s,a,w,Q,hv,_,_=>by simp only [cC,Option.some.injEq] at hc;subst hc;rw [vc] at hv;exact hv.elim
  | .refuse ..,m,hc,_,_,_,_,_,st,s,a,w,Q,hv,_,_=>by simp only [cC,Option.some.injEq] at hc;subst hc;rw [vc] at hv;exact hv.elim
def resOne (a:Act):ResultVar→Sem Value
  | .tmp t=>pure (a.tmps.getD t undef)
  | .cell x t=>do loadVar t (← asAddr (a.tmps.getD x undef))
theorem res_sound {E : D → Prop} : ∀ (rvs : List ResultVar) (rs : List RO) (acc : List D) (vacc : List Value), rvs.mapM (cR P) = some rs → GR G s a w A β γ → kRes s E rs acc → vacc.length = acc.length → (∀ i, i < acc.length → DR w A β s.N (acc.getD i .junk) (vacc.getD i undef)) →
    ∃ vs ds,(rvs.mapM (resOne a)).run P w=.ok vs w ∧
      E (resD ds)∧(vacc++vs).length=ds.length∧∀ i,i<ds.length→DR w A β s.N (ds.getD i .junk) ((vacc++vs).getD i undef)
  | [],rs,acc,vacc,h,g,hk,hl,hc=>by
    simp at h;subst h
    exact ⟨[],acc,by simp,hk,by simpa using hl,by simpa using hc⟩
  | r :: rvs, rs, acc, vacc, h, g, hk, hl, hc => by
    simp only [List.mapM_cons,Option.bind_eq_bind,Option.pure_def,Option.bind_eq_some_iff] at h
    obtain ⟨ro,h1,rs',h2,h⟩:=h
    cases h
    have step:∀ (d:D) (v:Value),DR w A β s.N d v→kRes s E rs' (acc++[d]) →
        ((resOne a r).run P w=.ok v w) →
        ∃ vs ds,((r::rvs).mapM (resOne a)).run P w=.ok vs w ∧
          E (resD ds)∧(vacc++vs).length=ds.length∧∀ i,i<ds.length→DR w A β s.N (ds.getD i .junk) ((vacc++vs).getD i undef):=by
      intro d v hd hk' hrun
      obtain ⟨vs,ds,r1,r2,r3,r4⟩:=res_sound rvs rs' (acc++[d]) (vacc++[v]) h2 g hk' (by simp [hl]) (fun i hi=>by
        by_cases h:i<acc.length
        · have e1:(acc++[d]).getD i .junk=acc.getD i .junk:=by simp only [List.getD_eq_getElem?_getD];rw [List.getElem?_append_left h]
          have e2:(vacc++[v]).getD i undef=vacc.getD i undef:=by simp only [List.getD_eq_getElem?_getD];rw [List.getElem?_append_left (by omega)]
          rw [e1,e2];exact hc i h
        · have:i=acc.length:=by simp at hi;omega
          subst this
          have e1:(acc++[d]).getD acc.length .junk=d:=by simp [List.getD]
          have e2:(vacc++[v]).getD acc.length undef=v:=by rw [← hl];simp [List.getD]
          rw [e1,e2];exact hd)
      refine ⟨v::vs,ds,?_,r2,by simpa using r3,by simpa using r4⟩
      simp only [List.mapM_cons,Sem.run_bind,hrun,Result.andThen_ok,r1,Sem.run_pure]
    cases r with
    | tmp t =>
      simp only [cR,Option.some.injEq] at h1
      subst h1
      exact step _ _ (g.slots t) hk rfl
    | cell x T =>
      simp only [cR,Option.bind_eq_bind,Option.bind_eq_some_iff] at h1
      obtain ⟨sz,hsz,h1⟩:=h1
      have cell : ∀ (n : Nat) (agg : Bool), ro = .cell x n agg → aggOf P T = some agg → (agg = true → sz = n) → ∃ vs ds, ((ResultVar.cell x T :: rvs).mapM (resOne a)).run P w = .ok vs w ∧
          E (resD ds)∧(vacc++vs).length=ds.length∧∀ i,i<ds.length→DR w A β s.N (ds.getD i .junk) ((vacc++vs).getD i undef):=by
        intro n agg e hag hn
        subst e
        have hk':kCell s n agg (fun x=>kRes s E rs' (acc++[x])) (s.ρ x):=hk
        have ev:=g.slots x
        unfold kCell at hk'
        split at hk'
        · next τ z i o hp =>
          rw [hp] at ev
          unfold kM at hk'
          split at hk'
          · next ob hM =>
            obtain ⟨⟨q1,q2,q3,q4,q6,q5⟩,hk''⟩:=hk'
            obtain ⟨b,us,hN,_,e1,hb,hcell,hr⟩:=ptr_cells g hM q6 q1 q2 q3 q4 ev
            have hor:=g.hr.objs τ ob hN hM
            cases agg with
            | true =>
              have hn':=hn rfl
              subst hn'
              have hlen:(ob.es.getD i []).length=z:=by rw [hor.1 i q2,q1]
              have hl':(((ob.es.getD i []).drop o).take sz).length=sz:=by rw [List.length_take,List.length_drop,hlen];omega
              have hul:(uns ob.ow (((ob.es.getD i []).drop o).take sz)).length=sz:=by cases ob.ow<;>simp only [uns_f,uns_t,List.length_map,hl']
              have hload:=run_loadCells (P:=P) w ⟨b,i * z+o,none⟩ sz us (fun j hj=>by rw [addr_add];exact hcell j hj)
              have hdr:DR w A β s.N (.ag (uns ob.ow (((ob.es.getD i []).drop o).take sz))) (.agg ((List.range sz).map us).toArray):=by
                refine .ag _ _ (by simp only [List.size_toArray,List.length_map,List.length_range,hul]) fun j hj => ?_
                rw [hul] at hj
                have e2:((List.range sz).map us).toArray.getD j undef=us j:=by simp [hj]
                rw [e2]
                cases hw:ob.ow with
                | true =>
                  rw [uns_t,map_getD' D.un _ j D.junk D.junk (by rw [hl'];exact hj),getD_drop_take _ _ _ _ hj]
                  exact un_dr (hr j hj)
                | false =>
                  rw [uns_f,getD_drop_take _ _ _ _ hj]
                  exact (hr j hj).1 (hor.2.1 hw i (o+j) q2 (by omega))
              exact step _ _ hdr hk'' (by simp only [resOne,Sem.run_bind,e1,asAddr,Sem.run_pure,Result.andThen_ok,loadVar,agg_run hag,if_true,szOf_spec hsz,hload])
            | false =>
              have hn1:=q5 rfl
              subst hn1
              have h0:=hcell 0 (by omega)
              have hd:=un_dr (hr 0 (by omega))
              rw [Nat.add_zero] at hd
              exact step _ _ hd (by simp only [Bool.false_eq_true,if_false] at hk'';exact hk'') (by rw [Nat.add_zero] at h0;simp only [resOne,Sem.run_bind,e1];simp [asAddr,loadVar,agg_run hag,h0])
          · exact hk'.elim
        · exact hk'.elim
      split at h1
      · next hag=>simp only [Option.pure_def,Option.some.injEq] at h1;exact cell sz true h1.symm hag (fun _=>rfl)
      · next hag=>simp only [Option.pure_def,Option.some.injEq] at h1;exact cell 1 false h1.symm hag (fun h=>by cases h)
      · cases h1
theorem results_sound {fn:Func} {rs:List RO} {E:D→Prop} (h2:fn.results.toList.mapM (cR P)=some rs) (g:GR G s a w A β γ) (hk:kRes s E rs []) :
    ∃ v d,(results fn a.tmps).run P w=.ok v w∧E d∧DR w A β s.N d v:=by
  obtain ⟨vs',ds',r1,r2,r3,r4⟩:=res_sound fn.results.toList rs [] [] h2 g hk rfl (fun i hi=>by simp at hi)
  simp only [List.nil_append] at r3 r4
  have hrun:(results fn a.tmps).run P w=.ok (if h:vs'.toArray.size=1 then vs'.toArray[0] else .tuple vs'.toArray) w:=by
    have e:fn.results.mapM (resOne a)=List.toArray <$> fn.results.toList.mapM (resOne a):=Array.mapM_eq_mapM_toList
    have e0:results fn a.tmps=(do let vs ← fn.results.mapM (resOne a);pure (if h:vs.size=1 then vs[0] else .tuple vs)):=by
      unfold results
      congr 1
    have e3:(do let vs ← fn.results.mapM (resOne a);pure (if h:vs.size=1 then vs[0] else Value.tuple vs):Sem Value).run P w=.ok (if h:vs'.toArray.size=1 then vs'.toArray[0] else .tuple vs'.toArray) w:=by
      rw [Sem.run_bind,e,Sem.run_map,r1]
      rfl
    exact e0 ▸ e3
  refine ⟨_,_,hrun,r2,?_⟩
  by_cases h:vs'.length=1
  · rw [dif_pos (by simpa using h)]
    obtain ⟨v,rfl⟩:=List.length_eq_one_iff.1 h
    obtain ⟨d,rfl⟩ : ∃ d,ds'=[d]:=List.length_eq_one_iff.1 (by rw [← r3];exact h)
    have:=r4 0 (by simp)
    simpa [resD] using this
  · rw [dif_neg (by simpa using h)]
    have e2:resD ds'=.tu ds':=by
      match ds',r3 with
      | [],_=>rfl
      | [d],r3=>exact absurd r3 (by simpa using h)
      | d::e::r,_=>rfl
    rw [e2]
    refine .tu _ _ (by simpa using r3) fun i hi => ?_
    have:=r4 i hi
    have hi':i<vs'.length:=by omega
    simpa [List.getD,hi'] using this
theorem leaves_gr {fn : Func} {tmps : Array Value} {R : Ending → World → Prop} (hGz : G.z = []) (h : ∀ a w, a.tmps = tmps → a.defers = [] → GR G s a w A β γ → ∃ v, (results fn tmps).run P w = .ok v w ∧ R (.returned v) w) :
    ∀ (w:World) (a:Act),a.tmps=tmps→GR G s a w A β γ→LeavesInM Fence.wide 0 P fn tmps R a.defers .returning w:=by
  have key:∀ (Z:List Nat) (w:World) (a:Act),a.tmps=tmps→a.defers=Z.map mkD→GR G s a w A β γ→LeavesInM Fence.wide 0 P fn tmps R (Z.map mkD) .returning w:=by
    intro Z
    induction Z with
    | nil=>intro w a ht hd g;exact h a w ht hd g
    | cons d Z ih =>
      intro w a ht hd g
      obtain ⟨⟨Z',hZ1,hZ2,hZ3,hZ4⟩,_⟩:=g.defers
      have e:Z'=d::Z:=by
        have:Z'.map mkD=(d::Z).map mkD:=hZ1.symm.trans hd
        exact (List.map_inj_right (fun x y h=>mkD_inj h)).1 this
      subst e
      obtain ⟨_,hA,hdw⟩:=hZ4 (d,defO) (by simp)
      have hnd:=List.nodup_cons.1 hZ2
      refine ⟨by simp,.inl ⟨d,_,rfl,run_takeDeferred hdw,?_⟩⟩
      refine ih _ { a with defers:=Z.map mkD } ht rfl ?_
      have:=g.putRec (o:=.deferred none) (a':={ a with defers:=Z.map mkD }) (z':=[]) rfl hdw rfl (shp_putD hdw) hA (.inl (hZ3 d (by simp))) ⟨⟨Z,rfl,hnd.2,fun x hx=>hZ3 x (by simp [hx]),Wch.put (fun p hp=>hZ4 p (by
        rw [List.map_cons];exact List.mem_cons_of_mem _ hp)) (fun p hp e=>by
          obtain ⟨x,hx,rfl⟩:=List.mem_map.1 hp
          have e2:x=d:=e
          exact hnd.1 (e2 ▸ hx))⟩,fun _ h=>(by cases h)⟩
      rw [← hGz] at this
      exact this
  intro w a ht g
  obtain ⟨⟨Z,hZ1,_⟩,_⟩:=g.defers
  rw [hZ1];exact key Z w a ht hZ1 g
theorem run_sound {f:FuncId} {fn:Func} {m:MC} {rs:List RO} {E:S→D→Prop} {F:Ex→S→Prop} (hF:∀ i s,¬ F (.exit i) s) (hE:∀ s,F .nrm s→kRes s (E s) rs []) (hE':∀ s,F .ret s→kRes s (E s) rs []) (hmix:P.follows .mixedOrders=true) (hf:P.funcs[f]?=some fn) (hc:cF P fn=some (m,rs))
    {vs:Array Value} {s0:S} (hv:vc P m [.f F] s0) (hn:vs.size≤fn.ntmps) {Gg:Gw} (H:HR Gg w A β γ s0.N s0.M) (hs:∀ t,DR w A β s0.N (s0.ρ t) (if t<vs.size then vs.getD t undef else undef)) :
    Calls P f vs w fun e w' => ∃ x d s' A' β' γ',e=.returned x∧E s' d∧HR Gg w' A' β' γ' s'.N s'.M∧DR w' A' β' s'.N d x ∧ ∃ a',GR ⟨Gg,fn.ntmps,fun _ _=>False,[]⟩ s' a' w' A' β' γ':=by
  unfold cF at hc
  simp only [Option.bind_eq_bind,Option.bind_eq_some_iff] at hc
  obtain ⟨c,hbody,m',h1,rs',h2,hc⟩:=hc
  split at hc
  case isFalse=>cases hc
  next hbound =>
  cases hc
  refine callsIn_wide.1 (callsIn_of_wp_marks (n:=0) hf hbody trivial ?_)
  let G:Gh:=⟨Gg,fn.ntmps,fun _ _=>False,[]⟩
  have htm:∀ t,(vs++Array.replicate (fn.ntmps - vs.size) undef).getD t undef=if t<vs.size then vs.getD t undef else undef:=by
    intro t
    simp only [Array.getD_eq_getD_getElem?]
    by_cases h:t<vs.size
    · rw [if_pos h,Array.getElem?_append_left (by omega)]
    · rw [if_neg h,Array.getElem?_append_right (by omega)]
      simp only [Array.getElem?_replicate]
      split<;>rfl
  have g0:GR G s0 { tmps:=vs++Array.replicate (fn.ntmps - vs.size) undef,defers:=[] } w A β γ :=
    ⟨by simp [G];omega,⟨⟨[],rfl,List.nodup_nil,fun _ h=>(by cases h),fun _ h=>(by cases h)⟩,fun _ h=>(by cases h)⟩,H,fun t=>by rw [htm];exact hs t,fun _ _ h=>h.elim⟩
  refine code_sound hmix fn.ntmps c _ h1 none (.inl rfl) G rfl ?_ _ _ _ _ _ hv ⟨A,β,γ,g0⟩ (fun e s' a' w' hr hs' => ?_)
  · intro t ht
    refine ⟨?_,fun _ h=>h⟩
    have:=List.all_eq_true.1 hbound.2.2 t ht
    simpa using this
  · obtain ⟨A',β',γ',g'⟩:=hs'
    have fin:kRes s' (E s') rs []→LeavesInM Fence.wide 0 P fn a'.tmps (fun e w' => ∃ x d s' A' β' γ',e=.returned x∧E s' d∧HR Gg w' A' β' γ' s'.N s'.M∧DR w' A' β' s'.N d x ∧ ∃ a',GR ⟨Gg,fn.ntmps,fun _ _=>False,[]⟩ s' a' w' A' β' γ') a'.defers .returning w':=by
      intro hk
      refine leaves_gr rfl (fun a2 w2 e1 e2 g2 => ?_) w' a' rfl g'
      obtain ⟨v,d,r1,r2,r3⟩:=results_sound h2 g2 hk
      exact ⟨v,by rw [← e1];exact r1,v,d,s',A',β',γ',rfl,r2,g2.hr,r3,a2,g2⟩
    cases e with
    | nrm=>rw [Go.Dm.rs] at hr;exact fin (hE s' hr)
    | ret=>rw [Go.Dm.rs] at hr;exact fin (hE' s' hr)
    | exit i=>rw [Go.Dm.rs] at hr;exact (hF i s' hr).elim
theorem fn_ok {f:FuncId} {fn:Func} {m:MC} {rs:List RO} (hf:P.funcs[f]?=some fn) (hc:cF P fn=some (m,rs)):FnOk P f:=by
  unfold cF at hc
  simp only [Option.bind_eq_bind,Option.bind_eq_some_iff] at hc
  obtain ⟨c,hbody,m',h1,rs',h2,hc⟩:=hc
  split at hc
  case isFalse=>cases hc
  next hbound=>exact ⟨fn,hf,by rw [hbody];rfl,hbound.1⟩
theorem spec_of_vc {f:FuncId} {fn:Func} {m:MC} {rs:List RO} {ds:List D} {R:D→Prop} (hmix:P.follows .mixedOrders=true) (hf:P.funcs[f]?=some fn) (hc:cF P fn=some (m,rs)) (hn:ds.length≤fn.ntmps)
    (hv:vc P m [.f (finQ rs R)] (S.init ds)):Spec P f ds R:=by
  refine ⟨fn_ok hf hc,fun w A vs low hsz hcr => ?_⟩
  have H:HR { w0:=w,A0:=A,O0:=fun _=>False,n0:=0,β0:=fun _=>none,F:=fun _=>False } w A (fun _=>none) (fun _=>none) (S.init ds).N (S.init ds).M :=
    ⟨Bel.refl _ _,fun _ h=>h,fun _ h=>.inl h,low,fun τ ob h=>absurd h (Nat.not_lt_zero _),fun b τ π h=>(by cases h),fun τ b h=>absurd h (Nat.not_lt_zero _),Nat.le_refl _,fun _ h=>h.elim,fun _ h=>h.elim⟩
  refine (run_sound (E:=FinC R) (fun i s h=>h) (fun s h=>h) (fun s h=>h) hmix hf hc hv (by omega) H (fun t => ?_)).mono ?_
  · show DR w A _ 0 (ds.getD t .junk) _
    by_cases h:t<ds.length
    · rw [if_pos (by omega)];exact .cl _ _ (hcr t h)
    · rw [if_neg (by omega)]
      have:ds.getD t .junk=.junk:=by simp [List.getD,List.getElem?_eq_none (Nat.le_of_not_lt h)]
      rw [this];exact DR.junk
  · rintro e w' ⟨x,d,s',A',β',γ',rfl,hE,hH,hdr,a',g'⟩
    obtain ⟨s2,f2,hgh,d',hle,hR⟩:=hE
    obtain ⟨A2,β2,γ2,g2,k2⟩:=hgh.sound g'
    refine ⟨x,d',rfl,hR,g2.hr.below.below (fun _ h=>h),(hle _ _ _ (view_cr g2 (k2 _ _ hdr))).mono (fun _ _=>rfl) (fun b hb => ?_)⟩
    rcases hb with h|⟨τ,π,h1,h2,h3⟩
    · rcases g2.hr.up b h with h'|h'|h'
      · exact .inl h'
      · exact h'.elim
      · exact .inr ⟨h',g2.hr.low b h⟩
    · obtain ⟨q1,q2,q3⟩:=g2.hr.own b τ π h1 h2 h3
      rcases q3 with h'|h'
      · exact .inr ⟨h',q1⟩
      · exact h'.elim
theorem specH_of_vc {f:FuncId} {fn:Func} {m:MC} {rs:List RO} {ds:List D} {obs:List Ob} {R:D→List (Option Ob)→Prop} (hmix:P.follows .mixedOrders=true) (hf:P.funcs[f]?=some fn) (hc:cF P fn=some (m,rs)) (hn:ds.length≤fn.ntmps)
    (hv:vc P m [.f (finH obs.length rs R)] (S.initH ds obs)):SpecH P f ds obs R:=by
  refine ⟨fn_ok hf hc,fun w A β γ vs H hsz hcr => ?_⟩
  refine (run_sound (E:=FinH obs.length R) (fun i s h=>h) (fun s h=>h) (fun s h=>h) hmix hf hc hv (by omega) H (fun t => ?_)).mono ?_
  · show DR w A _ obs.length (ds.getD t .junk) _
    by_cases h:t<ds.length
    · rw [if_pos (by omega)];exact hcr t h
    · rw [if_neg (by omega)]
      have:ds.getD t .junk=.junk:=by simp [List.getD,List.getElem?_eq_none (Nat.le_of_not_lt h)]
      rw [this];exact DR.junk
  · rintro e w' ⟨x,d,s',A',β',γ',rfl,hE,hH,hdr,a',g'⟩
    obtain ⟨s2,f2,l,hgh,hl1,hl2,hl3,hR⟩:=hE
    obtain ⟨A2,β2,γ2,g2,k2⟩:=hgh.sound g'
    have g3:=g2.trim hl2 hl1
    exact ⟨x,_,l,A2,β2,γ2,rfl,hR,g3.hr.sub_ hl3,nf_trim.dr (fun _ _=>rfl) (fun _ h=>h) (Shp.refl _).f (k2 _ _ hdr)⟩
end
end Go.Dm

namespace Go.Dm
open Go.RowKit
def isV:D→Bool
  | .v _=>true
  | _=>false
def Ob.pl (ob:Ob):Bool:=ob.es.all fun e=>e.all isV
end Go.Dm
