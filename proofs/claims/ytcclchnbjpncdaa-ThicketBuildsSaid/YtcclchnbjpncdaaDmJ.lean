/-
  A logic for Go functions over plain data,part J: what is read of owned objects;steps of the description;calls.
-/
import Derived.Test.YtcclchnbjpncdaaDmI
set_option linter.unusedSimpArgs false
set_option linter.unnecessarySimpa false
set_option linter.unusedVariables false
namespace Go.Dm
open Go.RowKit
section
variable {P:Program} {G:Gh} {s:S} {a:Act} {w:World} {A:Nat→Prop} {β:Nat→Option Nat} {γ:Nat→Option (Nat × List Nat)} {o:Oper}
def own (s:S) (A:Nat→Prop) (γ:Nat→Option (Nat × List Nat)):Nat→Prop:=fun b=>A b ∨ ∃ τ π,γ b=some (τ,π)∧τ<s.N∧s.M τ ≠ none
theorem vcell {A':Nat→Prop} {τ:Nat} {ob:Ob} (hor:OR w A β γ s.N ob τ) (hf:ob.flat=true) (hA:∀ b,A b→A' b) (hγ:∀ b π,γ b=some (τ,π)→A' b) {b:Nat} (hb:β τ=some b) :
    ∃ o us,w.heap[b]?=some o∧Holds ob.kd ob.sz ob.es.length o us∧∀ i j,i<ob.es.length→j<ob.sz→CR w A' ((ob.vrows.getD i []).getD j .junk) (us i j)∧(us i j).oneCell'=true:=by
  rcases hor.2.2 with ⟨k1,_⟩|⟨b',o,us,k1,k2,k3,k4⟩
  · rw [k1] at hb;cases hb
  · rw [hb] at k1;cases k1
    refine ⟨o,us,k2,k3,fun i j hi hj => ?_⟩
    obtain ⟨q1,q2,q3⟩:=k4 i j hi hj
    have hoc:=(q2 (.inl hf)).toC hA hγ
    refine ⟨?_,q3⟩
    unfold Ob.vrows
    cases hw:ob.ow with
    | true=>simp only [if_true];rw [map_getD' _ ob.es i [] [] hi,map_getD' _ _ j D.junk D.junk (by rw [hor.1 i hi];exact hj)];exact hoc
    | false=>simp only [Bool.false_eq_true,if_false];rw [vw_other (hor.2.1 hw i j hi hj)] at hoc;exact hoc
theorem vrows_len {ob:Ob}:ob.vrows.length=ob.es.length:=by unfold Ob.vrows;split<;>simp
theorem vrows_row {ob:Ob} {τ:Nat} (hor:OR w A β γ s.N ob τ) {i:Nat} (hi:i<ob.es.length):(ob.vrows.getD i []).length=ob.sz:=by
  unfold Ob.vrows
  split
  · rw [map_getD' _ ob.es i [] [] hi,List.length_map];exact hor.1 i hi
  · exact hor.1 i hi
theorem noMap {kd:Kd} {sz n:Nat} {o:Obj} {us:Nat→Nat→Value} (h:Holds kd sz n o us) (hk:kd.isMap=false) : ∃ arr T,o=.cells arr T (0,0)∧n * sz≤arr.size∧∀ i j,i<n→j<sz→arr.getD (i * sz+j) undef=us i j:=by
  cases kd with
  | map k ka va=>cases hk
  | itr=>cases hk
  | arr=>exact h
  | fix=>exact h
theorem ref_cr (g : HR G.g w A β γ s.N s.M) {A' : Nat → Prop} {τ sz off n : Nat} {v : Value} (hA : ∀ b, A b → A' b) (hγ : ∀ b π, γ b = some (τ, π) → s.M τ ≠ none → A' b) (h : DR w A β s.N (.ref τ sz off n) v) : CR w A' (viewO (s.M τ) sz off n) v := by
  cases hM:s.M τ with
  | none=>exact .junk _
  | some ob =>
    simp only [viewO]
    split
    · next hc =>
      obtain ⟨hf,hk,rfl,hle⟩:=hc
      have hyl:((ob.vrows.drop off).take n).length=n:=by rw [List.length_take,List.length_drop,vrows_len];omega
      have hMn:s.M τ ≠ none:=by rw [hM];simp
      cases h with
      | cl d x h'=>cases h'
      | ref τ sz off n c b arr T hN hb hc hh hr =>
        have hor:=g.objs τ ob hN hM
        obtain ⟨o,us,h1,h2,h3⟩:=vcell hor hf hA (fun b π h=>hγ b π h hMn) hb
        obtain ⟨arr',T',rfl,h4,h5⟩:=noMap h2 hk
        rw [hh] at h1;cases h1
        have hroot:=g.root τ b hN hMn hb
        have hgetys:∀ i,i<n→((ob.vrows.drop off).take n).getD i []=ob.vrows.getD (off+i) []:=by
          intro i hi
          simp only [List.getD_eq_getElem?_getD,List.getElem?_take,hi,if_true,List.getElem?_drop]
        refine .sl ob.sz _ b (off * ob.sz) n c (fun i j=>us (off+i) j) (hγ b [] hroot hMn) hyl hc (fun i hi => ?_) (fun i j hi hj => ?_) (fun i j hi hj => ?_)
        · rw [hyl] at hi;rw [hgetys i hi];exact vrows_row hor (by omega)
        · rw [hyl] at hi
          have e1:=in_row (n:=off+n) (sz:=ob.sz) (i:=off+i) (by omega) hj
          have hmul:(off+n) * ob.sz≤ob.es.length * ob.sz:=Nat.mul_le_mul_right _ hle
          refine ⟨?_,(h3 (off+i) j (by omega) hj).2⟩
          have e2:off * ob.sz+(i * ob.sz+j)=(off+i) * ob.sz+j:=by rw [Nat.add_mul];omega
          have hlt:(off+i) * ob.sz+j<arr.size:=by omega
          have e3:=h5 (off+i) j (by omega) hj
          rw [e2,← e3]
          simp only [World.cell?,hh]
          simp [hlt]
        · rw [hyl] at hi;rw [hgetys i hi]
          exact (h3 (off+i) j (by omega) hj).1
      | refz τ sz off b hN =>
        have:(ob.vrows.drop off).take 0=[]:=by simp
        rw [this];exact .sl0 _ _ _
    · exact .junk _
theorem ptr_cr (g : HR G.g w A β γ s.N s.M) {A' : Nat → Prop} {τ sz i o : Nat} {v : Value} (hA : ∀ b, A b → A' b) (hγ : ∀ b π, γ b = some (τ, π) → s.M τ ≠ none → A' b) (h : DR w A β s.N (.ptr τ sz i o) v) : CR w A' (viewP (s.M τ) sz i o) v := by
  cases hM:s.M τ with
  | none=>exact .junk _
  | some ob =>
    simp only [viewP]
    split
    · next hc =>
      obtain ⟨hf,hk,rfl,hi⟩:=hc
      have hMn:s.M τ ≠ none:=by rw [hM];simp
      cases h with
      | cl d x h'=>cases h'
      | ptr τ sz i o b hN hb =>
        have hor:=g.objs τ ob hN hM
        obtain ⟨oo,us,h1,h2,h3⟩:=vcell hor hf hA (fun b π h=>hγ b π h hMn) hb
        obtain ⟨arr',T',rfl,h4,h5⟩:=noMap h2 hk
        have hroot:=g.root τ b hN hMn hb
        refine .ip _ o b (i * ob.sz) (fun j=>us i j) (hγ b [] hroot hMn) (fun j hj => ?_) (fun j hj => ?_)
        · rw [vrows_row hor hi] at hj
          have e1:=in_row (sz:=ob.sz) hi hj
          have hlt:i * ob.sz+j<arr'.size:=by omega
          rw [← h5 i j hi hj]
          simp only [World.cell?,h1]
          simp [hlt]
        · rw [vrows_row hor hi] at hj
          exact (h3 i j hi hj).1
    · exact .junk _
theorem view_cr (g:GR G s a w A β γ) {d:D} {v:Value} (h:DR w A β s.N d v):CR w (own s A γ) (s.view d) v:=by
  have hsub:∀ b,A b→own s A γ b:=fun _ h=>.inl h
  refine h.lfC (fun d x hd h => ?_)
  have lt:∀ τ,(∀ {sz off n},d=.ref τ sz off n→τ<s.N):=by
    intro τ sz off n e
    subst e
    cases h with
    | cl d x h'=>cases h'
    | ref=>assumption
    | refz=>assumption
  have lt2:∀ τ,(∀ {sz off n},d=.ptr τ sz off n→τ<s.N):=by
    intro τ sz off n e
    subst e
    cases h with
    | cl d x h'=>cases h'
    | ptr=>assumption
  rcases cl_leaf h hd with ⟨τ,sz,off,n,rfl⟩|⟨τ,sz,i,o,rfl⟩|⟨τ,rfl⟩|hc
  · exact ref_cr g.hr hsub (fun b π hb hm=>.inr ⟨τ,π,hb,lt τ rfl,hm⟩) h
  · exact ptr_cr g.hr hsub (fun b π hb hm=>.inr ⟨τ,π,hb,lt2 τ rfl,hm⟩) h
  · exact .junk _
  · have e:s.viewL d=d:=by cases hc<;>first|rfl|(simp [D.leaf] at hd)
    rw [e];exact hc.mono (fun _ _=>rfl) hsub
theorem view_cl {d:D} {v:Value} (h:DR w A β s.N d v) (ho:d.owned=false):CR w A (s.view d) v:=by
  have hc:=h.toJ ho
  refine hc.lf (Q:=CR w A) (fun ds cs h1 h2=>.ag ds cs h1 h2) (fun ds cs h1 h2=>.tu ds cs h1 h2) (fun g ds cs h1 h2=>.clo g ds cs h1 h2) (fun d x hd h => ?_)
  have e:s.viewL d=d:=by cases h<;>first|rfl|(simp [D.leaf] at hd)
  rw [e];exact h
theorem plain_cr {w':World} {A':Nat→Prop} {d:D} {x:Value} (h:CR w A d x) (hp:d.plain=true):CR w' A' d x:=by
  unfold D.plain at hp
  induction h with
  | v x=>exact .v x
  | ag ds cs hn hr ih=>rw [alls_ag] at hp;exact .ag ds cs hn fun i hi=>ih i hi (all_getD hp hi)
  | tu ds cs hn hr ih=>rw [alls_tu] at hp;exact .tu ds cs hn fun i hi=>ih i hi (all_getD hp hi)
  | clo f ds cs hn hr ih=>rw [alls_clo] at hp;exact .clo f ds cs hn fun i hi=>ih i hi (all_getD hp hi)
  | nl|sl0|sl|ip|junk=>simp [D.alls,plL] at hp
theorem GR.extA (g:GR G s a w A β γ) {A':Nat→Prop} (h1:∀ b,A b→A' b) (h2:∀ b,A' b→A b∨(G.g.w0.heap.size≤b∧b<w.heap.size∧∀ τ π,γ b=some (τ,π)→τ<s.N→s.M τ=none)) (hz:Mz G.g.w0.heap.size a.defers w A' G.z):GR G s a w A' β γ:=by
  refine ⟨g.size,hz,⟨g.hr.below,fun b hb=>h1 b (g.hr.sub b hb),fun b hb => ?_,fun b hb => ?_,fun τ ob hτ hm => ?_,fun b τ π e1 e2 e3 => ?_,g.hr.root,g.hr.ge,g.hr.flt,g.hr.fixd⟩,fun t=>(g.slots t).mono (fun _ _=>rfl) h1 (Shp.refl _) (Nat.le_refl _) (fun _ _=>rfl),fun t d ht=>(g.keep t d ht).mono (fun _ _=>rfl) h1 (fun τ h=>⟨h,rfl⟩)⟩
  · rcases h2 b hb with h|h
    · exact g.hr.up b h
    · exact .inr (.inr h.1)
  · rcases h2 b hb with h|h
    · exact g.hr.low b h
    · exact h.2.1
  · exact (g.hr.objs τ ob hτ hm).mono hτ (fun _ _=>rfl) h1 (Shp.refl _) (Nat.le_refl _) (fun _ _=>rfl) (fun _ _ _ h=>⟨rfl,h⟩) (fun _ _=>rfl)
  · obtain ⟨q1,q2,q3,q4⟩:=g.hr.own b τ π e1 e2 e3
    refine ⟨q1,fun hA => ?_,q3,q4⟩
    rcases h2 b hA with h|h
    · exact q2 h
    · exact e3 (h.2.2 τ π e1 e2)
theorem frz_io (τ:Nat) (ob:Ob) (d:D):(d.lf (frzL τ ob)).isOwn=d.isOwn:=by
  cases d with
  | ag ds=>rw [lf_ag];rfl
  | tu ds=>rw [lf_tu];rfl
  | clo g ds=>rw [lf_clo];rfl
  | ref σ sz off n =>
    rw [lf_leaf rfl];simp only [frzL]
    split
    · simp only [viewO];split<;>rfl
    · rfl
  | ptr σ sz i o =>
    rw [lf_leaf rfl];simp only [frzL]
    split
    · simp only [viewP];split<;>rfl
    · rfl
  | mp σ=>rw [lf_leaf rfl];simp only [frzL];split<;>rfl
  | v|nl|sl|ip|own|omp|junk=>rw [lf_leaf rfl];rfl
theorem frz_ol (τ:Nat) (ob:Ob) (d:D) (h:d.isOwn=true):d.lf (frzL τ ob)=d:=by
  cases d<;>first|(rw [lf_leaf rfl];rfl)|(simp [D.isOwn] at h)
theorem GR.frz (g : GR G s a w A β γ) {τ : Nat} {ob : Ob} (hN : τ < s.N) (hM : s.M τ = some ob) (_hf : ob.flat = true) (_hk : ob.kd.isMap = false) :
    GR G (s.frz τ ob) a w (fun b=>A b ∨ ∃ π,γ b=some (τ,π)) β γ∧∀ d x,DR w A β s.N d x→DR w (fun b=>A b ∨ ∃ π,γ b=some (τ,π)) β s.N (d.frz τ ob) x:=by
  have hMn:s.M τ ≠ none:=by rw [hM];simp
  have hA:∀ b,A b→(A b ∨ ∃ π,γ b=some (τ,π)):=fun _ h=>.inl h
  have hdr:∀ d x,DR w A β s.N d x→DR w (fun b=>A b ∨ ∃ π,γ b=some (τ,π)) β s.N (d.frz τ ob) x:=by
    intro d x h
    refine h.lfD (fun d x hd h => ?_)
    have keep:frzL τ ob d=d→DR w (fun b=>A b ∨ ∃ π,γ b=some (τ,π)) β s.N (frzL τ ob d) x:=fun e=>by rw [e];exact h.mono (fun _ _=>rfl) hA (Shp.refl _) (Nat.le_refl _) (fun _ _=>rfl)
    rcases cl_leaf h hd with ⟨σ,sz,off,n,rfl⟩|⟨σ,sz,i,o,rfl⟩|⟨σ,rfl⟩|hc
    · by_cases e:σ=τ
      · subst e
        have:=ref_cr g.hr hA (fun b π hb _=>.inr ⟨π,hb⟩) h
        rw [hM] at this
        simp only [frzL,if_true];exact .cl _ _ this
      · exact keep (by simp only [frzL,if_neg e])
    · by_cases e:σ=τ
      · subst e
        have:=ptr_cr g.hr hA (fun b π hb _=>.inr ⟨π,hb⟩) h
        rw [hM] at this
        simp only [frzL,if_true];exact .cl _ _ this
      · exact keep (by simp only [frzL,if_neg e])
    · by_cases e:σ=τ
      · simp only [frzL,if_pos e];exact DR.junk
      · exact keep (by simp only [frzL,if_neg e])
    · exact keep (by cases hc<;>first|rfl|(simp [D.leaf] at hd))
  have hM':∀ σ,(s.frz τ ob).M σ=if σ=τ then none else (s.M σ).map (Ob.mapc (D.frz τ ob)):=fun _=>rfl
  have live:∀ σ,(s.frz τ ob).M σ ≠ none→σ ≠ τ∧s.M σ ≠ none:=by
    intro σ h
    rw [hM'] at h
    by_cases e:σ=τ
    · rw [if_pos e] at h;exact absurd rfl h
    · rw [if_neg e] at h;exact ⟨e,fun h2=>by rw [h2] at h;exact h rfl⟩
  refine ⟨⟨g.size,Mz.mono g.defers (fun b o h _=>h) (fun b hb=>hb.elim .inl fun ⟨π,h⟩=>.inr (.inr ((g.hr.own b τ π h hN hMn).2.2.2.wch (g.hr.own b τ π h hN hMn).1))),⟨g.hr.below,fun b hb=>.inl (g.hr.sub b hb),fun b hb => ?_,fun b hb => ?_,fun σ ob' hσ hm => ?_,fun b σ π e1 e2 e3 => ?_,fun σ b e1 e2 e3=>g.hr.root σ b e1 (live σ e2).2 e3,g.hr.ge,g.hr.flt,fun σ hF=>⟨(g.hr.fixd σ hF).1,fun ob' hm => ?_⟩⟩,fun t=>hdr _ _ (g.slots t),
    fun t d ht=>(g.keep t d ht).mono (fun _ _=>rfl) hA (fun τ h=>⟨h,rfl⟩)⟩,hdr⟩
  · rcases hb with h|⟨π,h⟩
    · exact g.hr.up b h
    · rcases (g.hr.own b τ π h hN hMn).2.2.1 with h|h
      · exact .inr (.inr h)
      · exact .inr (.inl h)
  · rcases hb with h|⟨π,h⟩
    · exact g.hr.low b h
    · exact (g.hr.own b τ π h hN hMn).1
  · have hl:=live σ (by rw [hm];simp)
    rw [hM',if_neg hl.1] at hm
    cases hs:s.M σ with
    | none=>exact absurd hs hl.2
    | some ob1 =>
      rw [hs] at hm
      simp only [Option.map_some,Option.some.injEq] at hm
      subst hm
      have hor:=g.hr.objs σ ob1 hσ hs
      rcases hor.2.2 with ⟨k1,k2,k3⟩|⟨b,o,us,k1,k2,k3,k4⟩
      · have h0:(ob1.mapc (D.frz τ ob)).es=[]:=List.eq_nil_of_length_eq_zero (by rw [mapc_len,k2];rfl)
        exact ⟨fun i hi=>by rw [h0] at hi;simp at hi,fun _ i j hi=>by rw [h0] at hi;simp at hi,.inl ⟨k1,h0,by rw [mapc_kd];exact k3⟩⟩
      · exact lf_orOf (f:=frzL τ ob) hor.1 hor.2.1 k1 k2 k3 k4 (fun _ _=>rfl) hA (fun b π _ h=>⟨rfl,h⟩) hdr (frz_io τ ob) (frz_ol τ ob)
  · obtain ⟨l1,l2⟩:=live σ e3
    obtain ⟨q1,q2,q3,q4⟩:=g.hr.own b σ π e1 e2 l2
    refine ⟨q1,fun hA => ?_,q3,q4⟩
    rcases hA with h|⟨π',h⟩
    · exact q2 h
    · rw [e1] at h;simp only [Option.some.injEq,Prod.mk.injEq] at h;exact l1 h.1
  · have hl:=live σ (by rw [hm];simp)
    rw [hM',if_neg hl.1] at hm
    cases hs:s.M σ with
    | none=>exact absurd hs hl.2
    | some ob1 =>
      rw [hs] at hm
      simp only [Option.map_some,Option.some.injEq] at hm
      subst hm
      rw [mapc_kd];exact (g.hr.fixd σ hF).2 ob1 hs
theorem cl'_spec {d:D} (h:d.clo'=true):d.isOwn=true∨d.cl=true:=by
  cases d<;>first|exact .inl rfl|exact .inr h
theorem GR.fold (g : GR G s a w A β γ) {σ τ i o n : Nat} {fl : Bool} {ob ob' : Ob} (hN : σ < s.N ∧ τ < s.N) (hM : s.M τ = some ob) (hM' : s.M σ = some ob') (hne : σ ≠ τ) (hf : ob'.flat = true) (hk : ob.kd.isMap = false) (hk' : ob'.kd.isMap = false)
    (hi:i<ob.es.length) (ho:o<ob.sz) (hc:(ob.es.getD i []).getD o .junk=.ref σ ob'.sz 0 n) (hn:n≤ob'.es.length)
    (hfl:fl=true→(ob.es.set i ((ob.es.getD i []).set o (.own ob'.ow ob'.sz (ob'.es.take n)))).all (fun e=>e.all D.clo')=true) :
    ∃ γ',GR G (s.fold σ τ i o fl ob (.own ob'.ow ob'.sz (ob'.es.take n))) a w A β γ':=by
  have hMn:s.M τ ≠ none:=by rw [hM];simp
  have hMn':s.M σ ≠ none:=by rw [hM'];simp
  let idx:=i * ob.sz+o
  let γ':Nat→Option (Nat × List Nat):=fun b=>match γ b with
    | some (υ,q)=>if υ=σ then some (τ,q++[idx]) else some (υ,q)
    | none=>none
  have γσ:∀ b q,γ b=some (σ,q)→γ' b=some (τ,q++[idx]):=fun b q h=>by simp only [γ',h,if_true]
  have γo:∀ b υ q,γ b=some (υ,q)→υ ≠ σ→γ' b=some (υ,q):=fun b υ q h hne=>by simp only [γ',h,if_neg hne]
  have inv:∀ b υ q,γ' b=some (υ,q)→(γ b=some (υ,q)∧υ ≠ σ)∨(υ=τ ∧ ∃ q',γ b=some (σ,q')):=by
    intro b υ q h
    simp only [γ'] at h
    split at h
    · next υ' q' he =>
      split at h
      · next e=>simp only [Option.some.injEq,Prod.mk.injEq] at h;right;exact ⟨h.1.symm,q',by rw [he,e]⟩
      · next e=>simp only [Option.some.injEq,Prod.mk.injEq] at h;left;obtain ⟨rfl,rfl⟩:=h;exact ⟨he,e⟩
    · cases h
  have hkill:=nf_kill (τ:=σ) (β:=β) (β':=β) (N:=s.N) (fun _ _ _=>rfl)
  have hSM:∀ υ,(s.fold σ τ i o fl ob (.own ob'.ow ob'.sz (ob'.es.take n))).M υ=if υ=σ then none else if υ=τ then some ⟨ob.sz,foldRows σ i o fl ob (.own ob'.ow ob'.sz (ob'.es.take n)),fl,true,ob.kd⟩ else (s.M υ).map (Ob.mapc (D.kill σ)):=fun _=>rfl
  have live:∀ υ,(s.fold σ τ i o fl ob (.own ob'.ow ob'.sz (ob'.es.take n))).M υ ≠ none→υ ≠ σ∧s.M υ ≠ none:=by
    intro υ h
    rw [hSM] at h
    by_cases e:υ=σ
    · rw [if_pos e] at h;exact absurd rfl h
    · refine ⟨e,fun h2 => ?_⟩
      rw [if_neg e] at h
      by_cases e2:υ=τ
      · rw [e2] at h2;exact hMn h2
      · rw [if_neg e2,h2] at h;exact h rfl
  have hor:=g.hr.objs τ ob hN.2 hM
  have hor':=g.hr.objs σ ob' hN.1 hM'
  have hcell:∀ i' j,i'<ob.es.length→j<ob.sz→((ob.es.set i ((ob.es.getD i []).set o (.own ob'.ow ob'.sz (ob'.es.take n)))).getD i' []).getD j .junk=if i=i'∧o=j then .own ob'.ow ob'.sz (ob'.es.take n) else (ob.es.getD i' []).getD j .junk:=by
    intro i' j hi' hj
    rw [set_getD]
    by_cases h:i=i'
    · subst h
      rw [if_pos ⟨rfl,hi⟩]
      have hlen:o<(ob.es.getD i []).length:=by rw [hor.1 i hi];exact ho
      rw [set_getD]
      by_cases h2:o=j
      · subst h2;rw [if_pos ⟨rfl,hlen⟩,if_pos ⟨rfl,rfl⟩]
      · rw [if_neg (fun h=>h2 h.1),if_neg (fun h=>h2 h.2)]
    · rw [if_neg (fun h'=>h h'.1),if_neg (fun h'=>h h'.1)]
  -- the new object
  have hobj : OR w A β γ' s.N ⟨ob.sz, foldRows σ i o fl ob (.own ob'.ow ob'.sz (ob'.es.take n)), fl, true, ob.kd⟩ τ := by
    have e:(⟨ob.sz,foldRows σ i o fl ob (.own ob'.ow ob'.sz (ob'.es.take n)),fl,true,ob.kd⟩:Ob)=(⟨ob.sz,ob.es.set i ((ob.es.getD i []).set o (.own ob'.ow ob'.sz (ob'.es.take n))),fl,true,ob.kd⟩:Ob).mapc (D.lf (killL σ)):=by
      unfold foldRows Ob.mapc;cases fl<;>rfl
    rw [e]
    rcases hor.2.2 with ⟨k1,k2,k3⟩|⟨b,oo,us,k1,k2,k3,k4⟩
    · rw [k2] at hi;simp at hi
    · refine hkill.orOf (w:=w) (γ:=γ') (τ:=τ) (us:=us) (fun i' hi' => ?_) (fun h=>by cases h) k1 k2 (by simpa using k3) (fun i' j hi' hj => ?_) (fun _ _=>rfl) (fun _ h=>h) (Shp.refl _).f (fun _ _ _ h=>⟨rfl,h⟩)
      · simp only [List.length_set] at hi'
        simp only
        rw [set_getD]
        split
        · rw [List.length_set];exact hor.1 i hi
        · exact hor.1 i' hi'
      · simp only [List.length_set] at hi'
        simp only at hj ⊢
        obtain ⟨q1,q2,q3⟩:=k4 i' j hi' hj
        rw [hcell i' j hi' hj]
        by_cases h:i=i'∧o=j
        · obtain ⟨rfl,rfl⟩:=h
          rw [if_pos ⟨rfl,rfl⟩]
          refine ⟨fun h=>by simp [D.isOwn] at h,fun _ => ?_,q3⟩
          have hd:=q1 (by rw [hc];rfl)
          rw [hc] at hd
          generalize us i o=u at hd
          cases hd with
          | cl d x h'=>cases h'
          | ref τ' sz' off' n' c b' arr T hN' hb hcc hh hr =>
            rcases hor'.2.2 with ⟨k1',_⟩|⟨b'',o'',us'',k1',k2',k3',k4'⟩
            · rw [k1'] at hb;cases hb
            · rw [hb] at k1';cases k1'
              obtain ⟨arr'',T'',rfl,h4,h5⟩:=noMap k3' hk'
              rw [hh] at k2';cases k2'
              have htk:(ob'.es.take n).length=n:=by rw [List.length_take];omega
              have hrow:∀ i,i<n→(ob'.es.take n).getD i []=ob'.es.getD i []:=fun i hi=>by
                simp only [List.getD_eq_getElem?_getD,List.getElem?_take,if_pos hi]
              rw [Nat.zero_mul]
              rw [Nat.zero_add] at hr
              have hoc:∀ i j,i<n→j<ob'.sz→OC w A γ σ [i * ob'.sz+j] ((ob'.es.getD i []).getD j .junk) (arr.getD (i * ob'.sz+j) undef):=fun i j hi hj=>by rw [h5 i j (by omega) hj];exact (k4' i j (by omega) hj).2.1 (.inl hf)
              refine .own _ _ _ _ b' n c arr T (γσ b' [] (g.hr.root σ b' hN.1 hMn' hb)) hh htk hcc hr (fun i hi => ?_) (fun i j hi hj => ?_) (fun how i j hi hj => ?_) (fun i j hi hj => ?_)
              · rw [htk] at hi;rw [hrow i hi];exact hor'.1 i (by omega)
              · rw [htk] at hi;rw [h5 i j (by omega) hj];exact (k4' i j (by omega) hj).2.2
              · rw [htk] at hi;rw [hrow i hi]
                exact (hoc i j hi hj).toCR (hor'.2.1 how i j (by omega) hj)
              · rw [htk] at hi;rw [hrow i hi]
                exact OC.move (γ':=γ') (τ':=τ) (g:=fun π=>π++[idx]) (fun _=>True) (fun _ _ _=>trivial) (fun _ _ _=>rfl) (fun b π _ h=>⟨rfl,γσ b π h⟩) (fun _ _=>rfl) (fun _ h=>h) (hoc i j hi hj) trivial
          | refz τ' sz' off' b' hN' =>
            have:ob'.es.take 0=[]:=by simp
            rw [this];exact .own0 _ _ _ _
        · rw [if_neg h]
          refine ⟨q1,fun hor2 => ?_,q3⟩
          have mvo:OC w A γ τ [i' * ob.sz+j] ((ob.es.getD i' []).getD j .junk) (us i' j)→OC w A γ' τ [i' * ob.sz+j] ((ob.es.getD i' []).getD j .junk) (us i' j):=fun h=>h.mono (fun b π _ hb=>⟨rfl,γo b τ π hb (fun e=>hne e.symm)⟩) (fun _ _=>rfl) (fun _ h=>h) (by simp)
          rcases hor2 with hfl'|hown
          · have hall:=all_getD (all_getD (hfl hfl') (i:=i') (by simpa using hi') (d:=[])) (i:=j) (by
              rw [set_getD]
              split
              · rw [List.length_set,hor.1 i hi];exact hj
              · rw [hor.1 i' hi'];exact hj) (d:=D.junk)
            rw [hcell i' j hi' hj,if_neg h] at hall
            rcases cl'_spec hall with h1|h1
            · exact mvo (q2 (.inr h1))
            · exact .cr _ _ _ ((q1 (cl_no h1)).toC h1)
          · exact mvo (q2 (.inr hown))
  refine ⟨γ',g.size,g.defers,⟨g.hr.below,g.hr.sub,g.hr.up,g.hr.low,fun υ ob1 hυ hm => ?_,fun b υ π e1 e2 e3 => ?_,fun υ b e1 e2 e3 => ?_,g.hr.ge,g.hr.flt,fun υ hF=>⟨(g.hr.fixd υ hF).1,fun ob1 hm => ?_⟩⟩,fun t=>(g.slots t).kill (fun _ _=>rfl) (fun _ h=>h) (Shp.refl _) (fun _ _ _=>rfl),g.keep⟩
  · have hl:=live υ (by rw [hm];simp)
    rw [hSM,if_neg hl.1] at hm
    by_cases e2:υ=τ
    · subst e2;rw [if_pos rfl] at hm;cases hm;exact hobj
    · rw [if_neg e2] at hm
      cases hs:s.M υ with
      | none=>exact absurd hs hl.2
      | some ob2 =>
        rw [hs] at hm
        simp only [Option.map_some,Option.some.injEq] at hm
        subst hm
        exact hkill.or (g.hr.objs υ ob2 hυ hs) rfl (fun _ _=>rfl) (fun _ h=>h) (Shp.refl _).f (fun b π _ hb=>⟨rfl,γo b υ π hb hl.1⟩) (fun _ _=>rfl)
  · obtain ⟨l1,l2⟩:=live υ e3
    rcases inv b υ π e1 with ⟨h,_⟩|⟨rfl,q',h⟩
    · exact g.hr.own b υ π h e2 l2
    · exact g.hr.own b σ q' h hN.1 hMn'
  · obtain ⟨l1,l2⟩:=live υ e2
    exact γo b υ [] (g.hr.root υ b e1 l2 e3) l1
  · have hl:=live υ (by rw [hm];simp)
    rw [hSM,if_neg hl.1] at hm
    by_cases e2:υ=τ
    · subst e2;rw [if_pos rfl] at hm;cases hm;exact (g.hr.fixd υ hF).2 ob hM
    · rw [if_neg e2] at hm
      cases hs:s.M υ with
      | none=>exact absurd hs hl.2
      | some ob2 =>
        rw [hs] at hm
        simp only [Option.map_some,Option.some.injEq] at hm
        subst hm
        rw [mapc_kd];exact (g.hr.fixd υ hF).2 ob2 hs
theorem GR.foldm (g : GR G s a w A β γ) {σ τ i o : Nat} {fl : Bool} {ob ob' : Ob} (hN : σ < s.N ∧ τ < s.N) (hM : s.M τ = some ob) (hM' : s.M σ = some ob') (hne : σ ≠ τ) (hf : ob'.flat = true) (hk : ob.kd.isMap = false) (hk' : ob'.kd.isMap = true) (how' : ob'.ow = false)
    (hi:i<ob.es.length) (ho:o<ob.sz) (hc:(ob.es.getD i []).getD o .junk=.mp σ)
    (hfl:fl=true→(ob.es.set i ((ob.es.getD i []).set o (.omp ob'.kd ob'.sz ob'.es))).all (fun e=>e.all D.clo')=true) :
    ∃ γ',GR G (s.fold σ τ i o fl ob (.omp ob'.kd ob'.sz ob'.es)) a w A β γ':=by
  have hMn:s.M τ ≠ none:=by rw [hM];simp
  have hMn':s.M σ ≠ none:=by rw [hM'];simp
  let idx:=i * ob.sz+o
  let γ':Nat→Option (Nat × List Nat):=fun b=>match γ b with
    | some (υ,q)=>if υ=σ then some (τ,q++[idx]) else some (υ,q)
    | none=>none
  have γσ:∀ b q,γ b=some (σ,q)→γ' b=some (τ,q++[idx]):=fun b q h=>by simp only [γ',h,if_true]
  have γo:∀ b υ q,γ b=some (υ,q)→υ ≠ σ→γ' b=some (υ,q):=fun b υ q h hne=>by simp only [γ',h,if_neg hne]
  have inv:∀ b υ q,γ' b=some (υ,q)→(γ b=some (υ,q)∧υ ≠ σ)∨(υ=τ ∧ ∃ q',γ b=some (σ,q')):=by
    intro b υ q h
    simp only [γ'] at h
    split at h
    · next υ' q' he =>
      split at h
      · next e=>simp only [Option.some.injEq,Prod.mk.injEq] at h;right;exact ⟨h.1.symm,q',by rw [he,e]⟩
      · next e=>simp only [Option.some.injEq,Prod.mk.injEq] at h;left;obtain ⟨rfl,rfl⟩:=h;exact ⟨he,e⟩
    · cases h
  have hkill:=nf_kill (τ:=σ) (β:=β) (β':=β) (N:=s.N) (fun _ _ _=>rfl)
  have hSM:∀ υ,(s.fold σ τ i o fl ob (.omp ob'.kd ob'.sz ob'.es)).M υ=if υ=σ then none else if υ=τ then some ⟨ob.sz,foldRows σ i o fl ob (.omp ob'.kd ob'.sz ob'.es),fl,true,ob.kd⟩ else (s.M υ).map (Ob.mapc (D.kill σ)):=fun _=>rfl
  have live:∀ υ,(s.fold σ τ i o fl ob (.omp ob'.kd ob'.sz ob'.es)).M υ ≠ none→υ ≠ σ∧s.M υ ≠ none:=by
    intro υ h
    rw [hSM] at h
    by_cases e:υ=σ
    · rw [if_pos e] at h;exact absurd rfl h
    · refine ⟨e,fun h2 => ?_⟩
      rw [if_neg e] at h
      by_cases e2:υ=τ
      · rw [e2] at h2;exact hMn h2
      · rw [if_neg e2,h2] at h;exact h rfl
  have hor:=g.hr.objs τ ob hN.2 hM
  have hor':=g.hr.objs σ ob' hN.1 hM'
  have hcell:∀ i' j,i'<ob.es.length→j<ob.sz→((ob.es.set i ((ob.es.getD i []).set o (.omp ob'.kd ob'.sz ob'.es))).getD i' []).getD j .junk=if i=i'∧o=j then .omp ob'.kd ob'.sz ob'.es else (ob.es.getD i' []).getD j .junk:=by
    intro i' j hi' hj
    rw [set_getD]
    by_cases h:i=i'
    · subst h
      rw [if_pos ⟨rfl,hi⟩]
      have hlen:o<(ob.es.getD i []).length:=by rw [hor.1 i hi];exact ho
      rw [set_getD]
      by_cases h2:o=j
      · subst h2;rw [if_pos ⟨rfl,hlen⟩,if_pos ⟨rfl,rfl⟩]
      · rw [if_neg (fun h=>h2 h.1),if_neg (fun h=>h2 h.2)]
    · rw [if_neg (fun h'=>h h'.1),if_neg (fun h'=>h h'.1)]
  -- the new object
  have hobj : OR w A β γ' s.N ⟨ob.sz, foldRows σ i o fl ob (.omp ob'.kd ob'.sz ob'.es), fl, true, ob.kd⟩ τ := by
    have e:(⟨ob.sz,foldRows σ i o fl ob (.omp ob'.kd ob'.sz ob'.es),fl,true,ob.kd⟩:Ob)=(⟨ob.sz,ob.es.set i ((ob.es.getD i []).set o (.omp ob'.kd ob'.sz ob'.es)),fl,true,ob.kd⟩:Ob).mapc (D.lf (killL σ)):=by
      unfold foldRows Ob.mapc;cases fl<;>rfl
    rw [e]
    rcases hor.2.2 with ⟨k1,k2,k3⟩|⟨b,oo,us,k1,k2,k3,k4⟩
    · rw [k2] at hi;simp at hi
    · refine hkill.orOf (w:=w) (γ:=γ') (τ:=τ) (us:=us) (fun i' hi' => ?_) (fun h=>by cases h) k1 k2 (by simpa using k3) (fun i' j hi' hj => ?_) (fun _ _=>rfl) (fun _ h=>h) (Shp.refl _).f (fun _ _ _ h=>⟨rfl,h⟩)
      · simp only [List.length_set] at hi'
        simp only
        rw [set_getD]
        split
        · rw [List.length_set];exact hor.1 i hi
        · exact hor.1 i' hi'
      · simp only [List.length_set] at hi'
        simp only at hj ⊢
        obtain ⟨q1,q2,q3⟩:=k4 i' j hi' hj
        rw [hcell i' j hi' hj]
        by_cases h:i=i'∧o=j
        · obtain ⟨rfl,rfl⟩:=h
          rw [if_pos ⟨rfl,rfl⟩]
          refine ⟨fun h=>by simp [D.isOwn] at h,fun _ => ?_,q3⟩
          have hd:=q1 (by rw [hc];rfl)
          rw [hc] at hd
          generalize us i o=u at hd
          cases hd with
          | cl d x h'=>cases h'
          | mp τ' b' hN' hb =>
            rcases hor'.2.2 with ⟨k1',_⟩|⟨b'',o'',us'',k1',k2',k3',k4'⟩
            · rw [k1'] at hb;cases hb
            · rw [hb] at k1';cases k1'
              exact .omp _ _ _ _ b' o'' us'' (γσ b' [] (g.hr.root σ b' hN.1 hMn' hb)) k2' hk' k3' hor'.1 (fun i j hi hj=>(k4' i j hi hj).2.2)
                (fun i j hi hj=>((k4' i j hi hj).2.1 (.inl hf)).toCR (hor'.2.1 how' i j hi hj))
        · rw [if_neg h]
          refine ⟨q1,fun hor2 => ?_,q3⟩
          have mvo:OC w A γ τ [i' * ob.sz+j] ((ob.es.getD i' []).getD j .junk) (us i' j)→OC w A γ' τ [i' * ob.sz+j] ((ob.es.getD i' []).getD j .junk) (us i' j):=fun h=>h.mono (fun b π _ hb=>⟨rfl,γo b τ π hb (fun e=>hne e.symm)⟩) (fun _ _=>rfl) (fun _ h=>h) (by simp)
          rcases hor2 with hfl'|hown
          · have hall:=all_getD (all_getD (hfl hfl') (i:=i') (by simpa using hi') (d:=[])) (i:=j) (by
              rw [set_getD]
              split
              · rw [List.length_set,hor.1 i hi];exact hj
              · rw [hor.1 i' hi'];exact hj) (d:=D.junk)
            rw [hcell i' j hi' hj,if_neg h] at hall
            rcases cl'_spec hall with h1|h1
            · exact mvo (q2 (.inr h1))
            · exact .cr _ _ _ ((q1 (cl_no h1)).toC h1)
          · exact mvo (q2 (.inr hown))
  refine ⟨γ',g.size,g.defers,⟨g.hr.below,g.hr.sub,g.hr.up,g.hr.low,fun υ ob1 hυ hm => ?_,fun b υ π e1 e2 e3 => ?_,fun υ b e1 e2 e3 => ?_,g.hr.ge,g.hr.flt,fun υ hF=>⟨(g.hr.fixd υ hF).1,fun ob1 hm => ?_⟩⟩,fun t=>(g.slots t).kill (fun _ _=>rfl) (fun _ h=>h) (Shp.refl _) (fun _ _ _=>rfl),g.keep⟩
  · have hl:=live υ (by rw [hm];simp)
    rw [hSM,if_neg hl.1] at hm
    by_cases e2:υ=τ
    · subst e2;rw [if_pos rfl] at hm;cases hm;exact hobj
    · rw [if_neg e2] at hm
      cases hs:s.M υ with
      | none=>exact absurd hs hl.2
      | some ob2 =>
        rw [hs] at hm
        simp only [Option.map_some,Option.some.injEq] at hm
        subst hm
        exact hkill.or (g.hr.objs υ ob2 hυ hs) rfl (fun _ _=>rfl) (fun _ h=>h) (Shp.refl _).f (fun b π _ hb=>⟨rfl,γo b υ π hb hl.1⟩) (fun _ _=>rfl)
  · obtain ⟨l1,l2⟩:=live υ e3
    rcases inv b υ π e1 with ⟨h,_⟩|⟨rfl,q',h⟩
    · exact g.hr.own b υ π h e2 l2
    · exact g.hr.own b σ q' h hN.1 hMn'
  · obtain ⟨l1,l2⟩:=live υ e2
    exact γo b υ [] (g.hr.root υ b e1 l2 e3) l1
  · have hl:=live υ (by rw [hm];simp)
    rw [hSM,if_neg hl.1] at hm
    by_cases e2:υ=τ
    · subst e2;rw [if_pos rfl] at hm;cases hm;exact (g.hr.fixd υ hF).2 ob hM
    · rw [if_neg e2] at hm
      cases hs:s.M υ with
      | none=>exact absurd hs hl.2
      | some ob2 =>
        rw [hs] at hm
        simp only [Option.map_some,Option.some.injEq] at hm
        subst hm
        rw [mapc_kd];exact (g.hr.fixd υ hF).2 ob2 hs
theorem GR.updK (g:GR G s a w A β γ) {τ:Nat} {ob ob':Ob} (hN:τ<s.N) (hM:s.M τ=some ob) (hk:ob.kd.isArr=false→ob'.kd.isArr=false) (h:OR w A β γ s.N ob τ→OR w A β γ s.N ob' τ):GR G (s.setM τ ob') a w A β γ:=by
  have hMn:s.M τ ≠ none:=by rw [hM];simp
  have hS:∀ υ,(s.setM τ ob').M υ=if υ=τ then some ob' else s.M υ:=fun _=>rfl
  have live:∀ υ,(s.setM τ ob').M υ ≠ none→s.M υ ≠ none:=by
    intro υ h
    rw [hS] at h
    by_cases e:υ=τ
    · rw [e];exact hMn
    · rwa [if_neg e] at h
  refine ⟨g.size,g.defers,⟨g.hr.below,g.hr.sub,g.hr.up,g.hr.low,fun υ ob1 hυ hm => ?_,fun b υ π e1 e2 e3=>g.hr.own b υ π e1 e2 (live υ e3),fun υ b e1 e2 e3=>g.hr.root υ b e1 (live υ e2) e3,g.hr.ge,g.hr.flt,fun υ hF=>⟨(g.hr.fixd υ hF).1,fun ob1 hm => ?_⟩⟩,g.slots,g.keep⟩
  · rw [hS] at hm
    by_cases e:υ=τ
    · subst e;rw [if_pos rfl] at hm;cases hm;exact h (g.hr.objs _ ob hυ hM)
    · rw [if_neg e] at hm;exact g.hr.objs υ ob1 hυ hm
  · rw [hS] at hm
    by_cases e:υ=τ
    · subst e;rw [if_pos rfl] at hm;cases hm;exact hk ((g.hr.fixd _ hF).2 ob hM)
    · rw [if_neg e] at hm;exact (g.hr.fixd υ hF).2 ob1 hm
theorem GR.upd (g:GR G s a w A β γ) {τ:Nat} {ob ob':Ob} (hN:τ<s.N) (hM:s.M τ=some ob) (hk:ob'.kd=ob.kd) (h:OR w A β γ s.N ob τ→OR w A β γ s.N ob' τ):GR G (s.setM τ ob') a w A β γ :=
  g.updK hN hM (fun e=>by rw [hk];exact e) h
theorem GR.stayK (g:GR G s a w A β γ) {τ:Nat} {ob:Ob} (hN:τ<s.N) (hM:s.M τ=some ob) (hl:0<ob.es.length) (hkm:ob.kd.isMap=false):GR G (s.setM τ ⟨ob.sz,ob.es,ob.flat,ob.ow,.fix⟩) a w A β γ :=
  g.updK hN hM (fun _=>rfl) fun hor=>⟨hor.1,hor.2.1,by
    rcases hor.2.2 with ⟨_,h2,_⟩|⟨b,o,us,k1,k2,k3,k4⟩
    · rw [h2] at hl;simp at hl
    · refine .inr ⟨b,o,us,k1,k2,?_,k4⟩
      obtain ⟨sz,es,fl,ow,kd⟩:=ob
      cases kd with
      | arr=>exact k3
      | fix=>exact k3
      | itr=>cases hkm
      | map ks ka va=>cases hkm⟩
theorem GR.flt (g:GR G s a w A β γ) {τ:Nat} {ob:Ob} (hN:τ<s.N) (hM:s.M τ=some ob) (hfl:ob.es.all (fun e=>e.all D.clo')=true):GR G (s.setM τ ⟨ob.sz,ob.es,true,ob.ow,ob.kd⟩) a w A β γ :=
  g.upd hN hM rfl fun hor=>⟨hor.1,hor.2.1,hor.2.2.imp (fun h=>h) fun ⟨b,o,us,k1,k2,k3,k4⟩=>⟨b,o,us,k1,k2,k3,fun i j hi hj=>by
    obtain ⟨q1,q2,q3⟩:=k4 i j hi hj
    refine ⟨q1,fun _ => ?_,q3⟩
    have hall:=all_getD (all_getD hfl (i:=i) hi (d:=[])) (i:=j) (by rw [hor.1 i hi];exact hj) (d:=D.junk)
    rcases cl'_spec hall with h1|h1
    · exact q2 (.inr h1)
    · exact .cr _ _ _ ((q1 (cl_no h1)).toC h1)⟩⟩
theorem GR.nlo (g : GR G s a w A β γ) {τ i o z : Nat} {ob : Ob} (hN : τ < s.N) (hM : s.M τ = some ob) (hi : i < ob.es.length) (ho : o < ob.sz) (hc : (ob.es.getD i []).getD o .junk = .nl) :
    GR G (s.setM τ ⟨ob.sz,ob.es.set i ((ob.es.getD i []).set o (.own false z [])),ob.flat,true,ob.kd⟩) a w A β γ :=
  g.upd hN hM rfl fun hor => by
    have hcell:∀ i' j,i'<ob.es.length→j<ob.sz→((ob.es.set i ((ob.es.getD i []).set o (.own false z []))).getD i' []).getD j .junk=if i=i'∧o=j then .own false z [] else (ob.es.getD i' []).getD j .junk:=by
      intro i' j hi' hj
      rw [set_getD]
      by_cases h:i=i'
      · subst h
        rw [if_pos ⟨rfl,hi⟩]
        have hlen:o<(ob.es.getD i []).length:=by rw [hor.1 i hi];exact ho
        rw [set_getD]
        by_cases h2:o=j
        · subst h2;rw [if_pos ⟨rfl,hlen⟩,if_pos ⟨rfl,rfl⟩]
        · rw [if_neg (fun h=>h2 h.1),if_neg (fun h=>h2 h.2)]
      · rw [if_neg (fun h'=>h h'.1),if_neg (fun h'=>h h'.1)]
    refine ⟨fun i' hi' => ?_,(fun h=>by cases h),?_⟩
    · simp only [List.length_set] at hi'
      simp only
      rw [set_getD]
      split
      · rw [List.length_set];exact hor.1 i hi
      · exact hor.1 i' hi'
    · rcases hor.2.2 with ⟨k1,k2,k3⟩|⟨b,oo,us,k1,k2,k3,k4⟩
      · rw [k2] at hi;simp at hi
      · refine .inr ⟨b,oo,us,k1,k2,by simpa using k3,fun i' j hi' hj => ?_⟩
        simp only [List.length_set] at hi'
        simp only at hj ⊢
        obtain ⟨q1,q2,q3⟩:=k4 i' j hi' hj
        rw [hcell i' j hi' hj]
        by_cases h:i=i'∧o=j
        · obtain ⟨rfl,rfl⟩:=h
          rw [if_pos ⟨rfl,rfl⟩]
          refine ⟨fun h=>by simp [D.isOwn] at h,fun _ => ?_,q3⟩
          have hd:=q1 (by rw [hc];rfl)
          rw [hc] at hd
          generalize us i o=u at hd ⊢
          cases hd with
          | cl d x h'=>cases h';exact .own0 _ _ _ _
        · rw [if_neg h];exact ⟨q1,q2,q3⟩
theorem GR.wk (g : GR G s a w A β γ) {τ i o : Nat} {d' : D} {ob : Ob} (hN : τ < s.N) (hM : s.M τ = some ob) (hi : i < ob.es.length) (ho : o < ob.sz) (hc : ((ob.es.getD i []).getD o .junk).cl = true) (hl : ((ob.es.getD i []).getD o .junk).Le d') (hd : d'.isOwn = false) :
    GR G (s.setM τ ⟨ob.sz,ob.es.set i ((ob.es.getD i []).set o d'),ob.flat,ob.ow,ob.kd⟩) a w A β γ :=
  g.upd hN hM rfl fun hor => by
    have hcell:∀ i' j,i'<ob.es.length→j<ob.sz→((ob.es.set i ((ob.es.getD i []).set o d')).getD i' []).getD j .junk=if i=i'∧o=j then d' else (ob.es.getD i' []).getD j .junk:=by
      intro i' j hi' hj
      rw [set_getD]
      by_cases h:i=i'
      · subst h
        rw [if_pos ⟨rfl,hi⟩]
        have hlen:o<(ob.es.getD i []).length:=by rw [hor.1 i hi];exact ho
        rw [set_getD]
        by_cases h2:o=j
        · subst h2;rw [if_pos ⟨rfl,hlen⟩,if_pos ⟨rfl,rfl⟩]
        · rw [if_neg (fun h=>h2 h.1),if_neg (fun h=>h2 h.2)]
      · rw [if_neg (fun h'=>h h'.1),if_neg (fun h'=>h h'.1)]
    refine ⟨fun i' hi' => ?_,(fun hw i' j hi' hj => ?_),?_⟩
    · simp only [List.length_set] at hi'
      simp only
      rw [set_getD]
      split
      · rw [List.length_set];exact hor.1 i hi
      · exact hor.1 i' hi'
    · simp only [List.length_set] at hi'
      simp only at hj ⊢
      rw [hcell i' j hi' hj]
      split
      · exact hd
      · exact hor.2.1 hw i' j hi' hj
    · rcases hor.2.2 with ⟨k1,k2,k3⟩|⟨b,oo,us,k1,k2,k3,k4⟩
      · rw [k2] at hi;simp at hi
      · refine .inr ⟨b,oo,us,k1,k2,by simpa using k3,fun i' j hi' hj => ?_⟩
        simp only [List.length_set] at hi'
        simp only at hj ⊢
        obtain ⟨q1,q2,q3⟩:=k4 i' j hi' hj
        rw [hcell i' j hi' hj]
        by_cases h:i=i'∧o=j
        · obtain ⟨rfl,rfl⟩:=h
          rw [if_pos ⟨rfl,rfl⟩]
          have hx:=hl _ _ _ ((q1 (cl_no hc)).toC hc)
          exact ⟨fun _=>.cl _ _ hx,fun _=>.cr _ _ _ hx,q3⟩
        · rw [if_neg h];exact ⟨q1,q2,q3⟩
theorem GR.emp (g:GR G s a w A β γ) {t sz:Nat} (h:s.ρ t=.nl) : ∃ β' γ',GR G (s.newt (some t) ⟨sz,[],true,false,.arr⟩ fun τ=>.ref τ sz 0 0) a w A β' γ'∧∀ τ,τ<s.N→β' τ=β τ:=by
  obtain ⟨β',γ',g2,e1,e2⟩:=g.newO (Below.refl _ _) (x:=none) (ob:=⟨sz,[],true,false,.arr⟩) (fun β' γ' e1 _=>⟨fun i hi=>by simp at hi,fun _ i j hi=>by simp at hi,.inl ⟨e1,rfl,rfl⟩⟩) (fun b e=>by cases e)
  refine ⟨β',γ',⟨g2.size,g2.defers,g2.hr,fun u => ?_,g2.keep⟩,e2⟩
  show DR w A β' (s.N+1) (if u=t then .ref s.N sz 0 0 else s.ρ u) _
  by_cases e:u=t
  · subst e
    rw [if_pos rfl]
    have hv:=g.slots u
    rw [h] at hv
    have:a.tmps.getD u undef=.slice none 0 0:=by
      generalize a.tmps.getD u undef=v at hv
      cases hv with
      | cl d x h'=>cases h';rfl
    rw [this]
    exact .refz _ _ _ _ (Nat.lt_succ_self _)
  · rw [if_neg e]
    exact g2.slots u
theorem nf_ren {ι:Nat→Nat} {N N':Nat} {β':Nat→Option Nat} (h:∀ k,k<N→ι k<N'∧β' (ι k)=β k):NF (renL ι) N N' β β' :=
  ⟨fun d h=>by cases d<;>first|rfl|(simp [clJ] at h),fun _ _ _=>rfl,fun _ _ _=>rfl,fun τ sz off n=>.inr ⟨ι τ,rfl,h τ⟩,fun τ sz i o=>.inr ⟨ι τ,rfl,h τ⟩,fun τ=>.inr ⟨ι τ,rfl,h τ⟩⟩
theorem swp_swp {σ τ k:Nat}:swp σ τ (swp σ τ k)=k:=by
  unfold swp;(repeat' split)<;>omega
theorem swp_lt {σ τ k N:Nat} (h1:σ<N) (h2:τ<N) (h:k<N):swp σ τ k<N:=by
  unfold swp;(repeat' split)<;>omega
theorem swp_ne {σ τ k:Nat} (h1:k ≠ σ) (h2:k ≠ τ):swp σ τ k=k:=by
  unfold swp;rw [if_neg h1,if_neg h2]
theorem GR.swap (g:GR G s a w A β γ) {σ τ:Nat} (hN:σ<s.N∧τ<s.N) (h1:arrO (s.M σ)=true) (h2:arrO (s.M τ)=true) : ∃ A' β' γ',GR G (s.swap σ τ) a w A' β' γ'∧∀ d x,DR w A β s.N d x→DR w A' β' (s.swap σ τ).N (d.ren (swp σ τ)) x:=by
  let β':Nat→Option Nat:=fun k=>β (swp σ τ k)
  let γ':Nat→Option (Nat × List Nat):=fun b=>(γ b).map fun p=>(swp σ τ p.1,p.2)
  have nf:NF (renL (swp σ τ)) s.N s.N β β':=nf_ren fun k hk=>⟨swp_lt hN.1 hN.2 hk,by show β (swp σ τ (swp σ τ k))=β k;rw [swp_swp]⟩
  have hdr:∀ d x,DR w A β s.N d x→DR w A β' s.N (d.lf (renL (swp σ τ))) x:=fun d x h=>nf.dr (fun _ _=>rfl) (fun _ h=>h) (Shp.refl _).f h
  have hM:∀ υ,(s.swap σ τ).M υ=(s.M (swp σ τ υ)).map (Ob.ren (swp σ τ)):=fun _=>rfl
  have live:∀ υ,(s.swap σ τ).M υ ≠ none→s.M (swp σ τ υ) ≠ none:=fun υ h e=>by rw [hM,e] at h;exact h rfl
  have hγ:∀ b υ π,γ' b=some (υ,π) ↔ γ b=some (swp σ τ υ,π):=fun b υ π=>by
    show (γ b).map _=_ ↔ _
    cases hb:γ b with
    | none=>simp
    | some p =>
      obtain ⟨k,q⟩:=p
      simp only [Option.map_some,Option.some.injEq,Prod.mk.injEq]
      constructor
      · rintro ⟨rfl,rfl⟩;exact ⟨swp_swp.symm,rfl⟩
      · rintro ⟨rfl,rfl⟩;exact ⟨swp_swp,rfl⟩
  have notF:∀ υ,G.g.F υ→swp σ τ υ=υ:=fun υ hF=>by
    have no:∀ k,arrO (s.M k)=true→υ ≠ k:=fun k h e=>by
      subst e
      unfold arrO at h
      split at h
      · next ob hob=>have:=(g.hr.fixd υ hF).2 ob hob;rw [this] at h;cases h
      · cases h
    exact swp_ne (no σ h1) (no τ h2)
  refine ⟨A,β',γ',⟨g.size,g.defers,⟨g.hr.below,g.hr.sub,g.hr.up,g.hr.low,fun υ ob hυ hm => ?_,fun b υ π k1 k2 k3 => ?_,fun υ b k1 k2 k3 => ?_,g.hr.ge,g.hr.flt,fun υ hF => ?_⟩,fun t=>hdr _ _ (g.slots t),g.keep⟩,fun d x h=>hdr d x h⟩
  · rw [hM] at hm
    simp only [Option.map_eq_some_iff] at hm
    obtain ⟨ob0,m1,rfl⟩:=hm
    have hlt:swp σ τ υ<s.N:=swp_lt hN.1 hN.2 hυ
    exact nf.or (g.hr.objs _ ob0 hlt m1) rfl (fun _ _=>rfl) (fun _ h=>h) (Shp.refl _).f (fun b π _ h=>⟨rfl,(hγ b υ π).2 h⟩) (fun _ _=>rfl)
  · exact g.hr.own b (swp σ τ υ) π ((hγ b υ π).1 k1) (swp_lt hN.1 hN.2 k2) (live υ k3)
  · exact (hγ b υ []).2 (g.hr.root (swp σ τ υ) b (swp_lt hN.1 hN.2 k1) (live υ k2) k3)
  · have e:=notF υ hF
    refine ⟨?_,fun ob hm => ?_⟩
    · show β (swp σ τ υ)=_
      rw [e];exact (g.hr.fixd υ hF).1
    · rw [hM,e] at hm
      simp only [Option.map_eq_some_iff] at hm
      obtain ⟨ob0,m1,rfl⟩:=hm
      unfold Ob.ren
      rw [mapc_kd];exact (g.hr.fixd υ hF).2 ob0 m1
theorem Gho.sound {s':S} {f:D→D} (h:Gho s f s') (g:GR G s a w A β γ) : ∃ A' β' γ',GR G s' a w A' β' γ'∧∀ d x,DR w A β s.N d x→DR w A' β' s'.N (f d) x:=by
  cases h with
  | frz τ ob hN hM hf hk =>
    obtain ⟨g',h⟩:=g.frz hN hM hf hk
    exact ⟨_,_,_,g',h⟩
  | fold σ τ i o n fl ob ob' hN hM hM' hne hf hk hk' hi ho hc hn hfl =>
    obtain ⟨γ',g'⟩:=g.fold hN hM hM' hne hf hk hk' hi ho hc hn hfl
    exact ⟨A,β,γ',g',fun d x h=>h.kill (fun _ _=>rfl) (fun _ h=>h) (Shp.refl _) (fun _ _ _=>rfl)⟩
  | foldm σ τ i o fl ob ob' hN hM hM' hne hf hk hk' how hi ho hc hfl =>
    obtain ⟨γ',g'⟩:=g.foldm hN hM hM' hne hf hk hk' how hi ho hc hfl
    exact ⟨A,β,γ',g',fun d x h=>h.kill (fun _ _=>rfl) (fun _ h=>h) (Shp.refl _) (fun _ _ _=>rfl)⟩
  | flt τ ob hN hM hfl=>exact ⟨A,β,γ,g.flt hN hM hfl,fun d x h=>h⟩
  | nlo τ i o z ob hN hM hi ho hc=>exact ⟨A,β,γ,g.nlo hN hM hi ho hc,fun d x h=>h⟩
  | wk τ i o d' ob hN hM hi ho hc hl hd=>exact ⟨A,β,γ,g.wk hN hM hi ho hc hl hd,fun d x h=>h⟩
  | unf τ i o z ow es ob hN hM hk hi ho hc =>
    rcases (g.hr.objs τ ob hN hM).2.2 with ⟨_,e,_⟩|⟨b,_,_,hb,_⟩
    · rw [e] at hi;simp at hi
    · obtain ⟨arr,T,hh,hl,hr⟩:=g.hr.cells hN hM hk hb
      have hu:=(hr i o hi ho).2.1
      rw [hc] at hu
      obtain ⟨β',γ',g',_,eβ⟩:=g.unfold hN hM hk hi ho hc (hu (.inr rfl)) (fun b' hb'=>by rw [hb] at hb';cases hb';exact ⟨arr,T,hh,rfl⟩)
      exact ⟨A,β',γ',g',fun d x h=>h.mono (fun _ _=>rfl) (fun _ h=>h) (Shp.refl _) (Nat.le_succ _) eβ⟩
  | swap σ τ hN h1 h2=>exact g.swap hN h1 h2
  | stay τ ob hN hM hl hk=>exact ⟨A,β,γ,g.stayK hN hM hl hk,fun d x h=>h⟩
  | emp t sz h =>
    obtain ⟨β',γ',g',e⟩:=g.emp (sz:=sz) h
    exact ⟨A,β',γ',g',fun d x h=>h.mono (fun _ _=>rfl) (fun _ h=>h) (Shp.refl _) (Nat.le_succ _) e⟩
theorem Ghos.sound {s s':S} (h:Ghos s s'):∀ {A β γ},GR G s a w A β γ → ∃ A' β' γ',GR G s' a w A' β' γ':=by
  induction h with
  | refl s=>exact fun g=>⟨_,_,_,g⟩
  | step s s1 s2 f h t ih =>
    intro A β γ g
    obtain ⟨A1,β1,γ1,g1,_⟩:=h.sound g
    exact ih g1
theorem GhosD.sound {s s':S} {f:D→D} (h:GhosD s f s'):∀ {A β γ},GR G s a w A β γ → ∃ A' β' γ',GR G s' a w A' β' γ'∧∀ d x,DR w A β s.N d x→DR w A' β' s'.N (f d) x:=by
  induction h with
  | refl s=>exact fun g=>⟨_,_,_,g,fun _ _ h=>h⟩
  | step s s1 s2 f f' h t ih =>
    intro A β γ g
    obtain ⟨A1,β1,γ1,g1,k1⟩:=h.sound g
    obtain ⟨A2,β2,γ2,g2,k2⟩:=ih g1
    exact ⟨A2,β2,γ2,g2,fun d x h=>k2 _ _ (k1 d x h)⟩
structure CallOp (P:Program) (o:Oper) (f:FuncId) (args:Array Operand):Prop where
  ho : ∃ ats,o.op=.call ⟨.value (.func f),args,ats⟩
  hf : ∃ fn, P.funcs[f]? = some fn ∧ fn.body.isSome = true ∧ (fn.name == "runtime.NumGoroutine") = false
theorem run_call {f : FuncId} {args : Array Operand} (h : CallOp P o f args) (w' : World) : (execOp a.eval o).run P w' = .ok (.enter f (args.map a.eval)) w' := by
  obtain ⟨ats,ho⟩:=h.ho
  obtain ⟨fn,hf,hb,hn⟩:=h.hf
  have hb':fn.body.isNone=false:=by cases hx:fn.body<;>simp_all
  have hn' : (if (fn.name == "runtime.NumGoroutine") = true then (pure .numGoroutine : Sem Next) else (if fn.body.isNone = true then (do
      mark (.extern f)
      if let some e:=Extern.findNext fn then return ← e (args.map a.eval)
      match Extern.find fn with
      | some e=>pure (.value (← e (args.map a.eval)))
      | none =>
        if fn.name.endsWith ".init" && !fn.name.startsWith "(" && !fn.name.startsWith "gosem." then pure (.value (.tuple #[]))
        else unsupported (.extern fn.name)) else pure (.enter f (args.map a.eval))))=pure (.enter f (args.map a.eval)):=by
    rw [if_neg (by rw [hn];simp),if_neg (by rw [hb'];simp)]
  have e0:a.eval (.func f)=.func (.func f) #[] #[]:=rfl
  simp only [execOp,ho,resolve,e0,Deferred.ofValue,invoke,callFunc,Array.empty_append,Array.append_empty,Sem.run_bind,Sem.run_pure,Result.andThen_ok,run_program,hf]
  simp [hn,hb']
theorem Les.spec {l l':List D} (h:Les l l'):l.length=l'.length∧∀ i,i<l.length→(l.getD i .junk).Le (l'.getD i .junk):=by
  induction h with
  | nil=>exact ⟨rfl,fun i hi=>by simp at hi⟩
  | cons h t ih =>
    refine ⟨by simp [ih.1],fun i hi => ?_⟩
    cases i with
    | zero=>simpa using h
    | succ i=>simpa using ih.2 i (by simpa using hi)
theorem posn_spec {τ:Nat}:∀ {ι:List Nat} {k:Nat},posn τ ι=some k→k<ι.length∧ι.getD k 0=τ
  | [],k,h=>by simp [posn] at h
  | x :: r, k, h => by
    unfold posn at h
    split at h
    · next e=>cases h;exact ⟨by simp,by simp [e]⟩
    · simp only [Option.map_eq_some_iff] at h
      obtain ⟨j,hj,rfl⟩:=h
      obtain ⟨h1,h2⟩:=posn_spec hj
      exact ⟨by simpa using h1,by simpa using h2⟩
theorem posn_nodup:∀ {ι:List Nat} {k:Nat},ι.Nodup→k<ι.length→posn (ι.getD k 0) ι=some k
  | [],k,_,h=>by simp at h
  | x::r,0,_,_=>by simp [posn]
  | x::r,k+1,hn,h=>by
    rw [List.nodup_cons] at hn
    have hk:k<r.length:=by simpa using h
    have hmem:r.getD k 0 ∈ r:=getD_mem hk
    unfold posn
    rw [List.getD_cons_succ,if_neg (fun e:r.getD k 0=x=>hn.1 (e ▸ hmem)),posn_nodup hn.2 hk]
    rfl
theorem posn_none {τ:Nat}:∀ {ι:List Nat},τ ∉ ι→posn τ ι=none
  | [],_=>rfl
  | x::r,h=>by
    simp only [List.mem_cons,not_or] at h
    unfold posn
    rw [if_neg h.1,posn_none h.2];rfl
theorem ren_inv {ι:Nat→Nat} {N n0:Nat} {βc:Nat→Option Nat} (hι:∀ k,ι k<N→k<n0∧βc k=β (ι k)) {d':D} {x:Value} (h:DR w A β N d' x):∀ d,d.lf (renL ι)=d'→DR w A βc n0 d x:=by
  have cc:∀ {d':D} {x:Value},CR w A d' x→∀ d,d.lf (renL ι)=d'→CR w A d x:=by
    intro d' x h
    have part:∀ (ds:List D) (cs:Array Value),(∀ i,i<(ds.map (D.lf (renL ι))).length→∀ d,d.lf (renL ι)=(ds.map (D.lf (renL ι))).getD i .junk→CR w A d (cs.getD i undef))→∀ i,i<ds.length→CR w A (ds.getD i .junk) (cs.getD i undef) :=
      fun ds cs ih i hi=>ih i (by simpa using hi) _ (map_getD' _ ds i D.junk D.junk hi).symm
    induction h with
    | ag ds cs hn hr ih =>
      intro d e
      cases d<;>first|(rw [lf_ag] at e;injection e with e;subst e;exact .ag _ _ (by simpa using hn) (part _ _ ih))|(rw [lf_tu] at e;cases e)|(rw [lf_clo] at e;cases e)|(rw [lf_leaf rfl] at e;cases e)
    | tu ds cs hn hr ih =>
      intro d e
      cases d<;>first|(rw [lf_tu] at e;injection e with e;subst e;exact .tu _ _ (by simpa using hn) (part _ _ ih))|(rw [lf_ag] at e;cases e)|(rw [lf_clo] at e;cases e)|(rw [lf_leaf rfl] at e;cases e)
    | clo f ds cs hn hr ih =>
      intro d e
      cases d<;>first|(rw [lf_clo] at e;injection e with e0 e;subst e0;subst e;exact .clo _ _ _ (by simpa using hn) (part _ _ ih))|(rw [lf_ag] at e;cases e)|(rw [lf_tu] at e;cases e)|(rw [lf_leaf rfl] at e;cases e)
    | v x=>intro d e;cases d<;>first|(rw [lf_leaf rfl] at e;cases e;exact .v x)|(rw [lf_leaf rfl] at e;cases e)|(rw [lf_ag] at e;cases e)|(rw [lf_tu] at e;cases e)|(rw [lf_clo] at e;cases e)
    | nl=>intro d e;cases d<;>first|(rw [lf_leaf rfl] at e;cases e;exact .nl)|(rw [lf_leaf rfl] at e;cases e)|(rw [lf_ag] at e;cases e)|(rw [lf_tu] at e;cases e)|(rw [lf_clo] at e;cases e)
    | sl0 sz b c=>intro d e;cases d<;>first|(rw [lf_leaf rfl] at e;cases e;exact .sl0 sz b c)|(rw [lf_leaf rfl] at e;cases e)|(rw [lf_ag] at e;cases e)|(rw [lf_tu] at e;cases e)|(rw [lf_clo] at e;cases e)
    | sl sz es b off n c us h1 h2 h3 h4 h5 h6 ih=>intro d e;cases d<;>first|(rw [lf_leaf rfl] at e;cases e;exact .sl sz es b off n c us h1 h2 h3 h4 h5 h6)|(rw [lf_leaf rfl] at e;cases e)|(rw [lf_ag] at e;cases e)|(rw [lf_tu] at e;cases e)|(rw [lf_clo] at e;cases e)
    | ip e0 o b off us h1 h2 h3 ih=>intro d e;cases d<;>first|(rw [lf_leaf rfl] at e;cases e;exact .ip e0 o b off us h1 h2 h3)|(rw [lf_leaf rfl] at e;cases e)|(rw [lf_ag] at e;cases e)|(rw [lf_tu] at e;cases e)|(rw [lf_clo] at e;cases e)
    | junk x=>intro d e;cases d<;>first|(rw [lf_leaf rfl] at e;cases e;exact .junk x)|(rw [lf_leaf rfl] at e;cases e)|(rw [lf_ag] at e;cases e)|(rw [lf_tu] at e;cases e)|(rw [lf_clo] at e;cases e)
  have part:∀ (ds:List D) (cs:Array Value),(∀ i,i<(ds.map (D.lf (renL ι))).length→∀ d,d.lf (renL ι)=(ds.map (D.lf (renL ι))).getD i .junk→DR w A βc n0 d (cs.getD i undef))→∀ i,i<ds.length→DR w A βc n0 (ds.getD i .junk) (cs.getD i undef) :=
    fun ds cs ih i hi=>ih i (by simpa using hi) _ (map_getD' _ ds i D.junk D.junk hi).symm
  induction h with
  | cl d' x h=>exact fun d e=>.cl _ _ (cc h d e)
  | ag ds cs hn hr ih =>
    intro d e
    cases d<;>first|(rw [lf_ag] at e;injection e with e;subst e;exact .ag _ _ (by simpa using hn) (part _ _ ih))|(rw [lf_tu] at e;cases e)|(rw [lf_clo] at e;cases e)|(rw [lf_leaf rfl] at e;cases e)
  | tu ds cs hn hr ih =>
    intro d e
    cases d<;>first|(rw [lf_tu] at e;injection e with e;subst e;exact .tu _ _ (by simpa using hn) (part _ _ ih))|(rw [lf_ag] at e;cases e)|(rw [lf_clo] at e;cases e)|(rw [lf_leaf rfl] at e;cases e)
  | clo f ds cs hn hr ih =>
    intro d e
    cases d<;>first|(rw [lf_clo] at e;injection e with e0 e;subst e0;subst e;exact .clo _ _ _ (by simpa using hn) (part _ _ ih))|(rw [lf_ag] at e;cases e)|(rw [lf_tu] at e;cases e)|(rw [lf_leaf rfl] at e;cases e)
  | ref τ sz off n c b arr T h1 hb hc hh hr =>
    intro d e
    cases d<;>first
      | (rw [lf_leaf rfl] at e;simp only [renL] at e;cases e;obtain ⟨q1,q2⟩:=hι _ h1;exact .ref _ sz off n c b arr T q1 (by rw [q2];exact hb) hc hh hr)
      | (rw [lf_leaf rfl] at e;cases e)|(rw [lf_ag] at e;cases e)|(rw [lf_tu] at e;cases e)|(rw [lf_clo] at e;cases e)
  | refz τ sz off b h1 =>
    intro d e
    cases d<;>first
      | (rw [lf_leaf rfl] at e;simp only [renL] at e;cases e;obtain ⟨q1,q2⟩:=hι _ h1;exact .refz _ sz off b q1)
      | (rw [lf_leaf rfl] at e;cases e)|(rw [lf_ag] at e;cases e)|(rw [lf_tu] at e;cases e)|(rw [lf_clo] at e;cases e)
  | ptr τ sz i o b h1 hb =>
    intro d e
    cases d<;>first
      | (rw [lf_leaf rfl] at e;simp only [renL] at e;cases e;obtain ⟨q1,q2⟩:=hι _ h1;exact .ptr _ sz i o b q1 (by rw [q2];exact hb))
      | (rw [lf_leaf rfl] at e;cases e)|(rw [lf_ag] at e;cases e)|(rw [lf_tu] at e;cases e)|(rw [lf_clo] at e;cases e)
  | mp τ b h1 hb =>
    intro d e
    cases d<;>first
      | (rw [lf_leaf rfl] at e;simp only [renL] at e;cases e;obtain ⟨q1,q2⟩:=hι _ h1;exact .mp _ b q1 (by rw [q2];exact hb))
      | (rw [lf_leaf rfl] at e;cases e)|(rw [lf_ag] at e;cases e)|(rw [lf_tu] at e;cases e)|(rw [lf_clo] at e;cases e)
theorem ren_io (ι:Nat→Nat) (d:D):(d.lf (renL ι)).isOwn=d.isOwn:=by
  cases d<;>first|(rw [lf_leaf rfl];rfl)|(rw [lf_ag];rfl)|(rw [lf_tu];rfl)|(rw [lf_clo];rfl)
theorem ren_own (ι:Nat→Nat) {d:D} (h:d.isOwn=true):d.lf (renL ι)=d:=by
  cases d<;>first|(rw [lf_leaf rfl];rfl)|(simp [D.isOwn] at h)
theorem ren_inv_or {ι : Nat → Nat} {N n0 : Nat} {βc : Nat → Option Nat} {γc : Nat → Option (Nat × List Nat)} (hι : ∀ k, ι k < N → k < n0 ∧ βc k = β (ι k)) {ob : Ob} {k : Nat} (hk : ι k < N) (hγ : ∀ b π, γ b = some (ι k, π) → γc b = some (k, π)) (h : OR w A β γ N (ob.ren ι) (ι k)) : OR w A βc γc n0 ob k := by
  obtain ⟨h1,h2,h3⟩:=h
  unfold Ob.ren at h1 h2 h3
  have hlen:∀ i,i<ob.es.length→(ob.es.getD i []).length=ob.sz:=by
    intro i hi
    have:=h1 i (by rw [mapc_len];exact hi)
    rw [mapc_sz] at this
    cases hf:ob.flat with
    | true=>rw [mapc_flat hf] at this;exact this
    | false=>rw [mapc_row hf hi,List.length_map] at this;exact this
  have hcell:∀ i j,i<ob.es.length→j<ob.sz→((ob.mapc (D.ren ι)).es.getD i []).getD j .junk=if ob.flat then (ob.es.getD i []).getD j .junk else ((ob.es.getD i []).getD j .junk).lf (renL ι):=by
    intro i j hi hj
    cases hf:ob.flat with
    | true=>rw [mapc_flat hf];rfl
    | false=>rw [mapc_row hf hi];exact map_getD' _ _ j D.junk D.junk (by rw [hlen i hi];exact hj)
  have hoc:∀ {π:List Nat} {d:D} {x:Value},OC w A γ (ι k) π d x→OC w A γc k π d x:=fun h=>OC.move (g:=fun π=>π) (fun _=>True) (fun _ _ _=>trivial) (fun _ _ _=>rfl) (fun b π _ hb=>⟨rfl,hγ b π hb⟩) (fun _ _=>rfl) (fun _ h=>h) h trivial
  refine ⟨hlen,fun how i j hi hj => ?_,?_⟩
  · have:=h2 (by rw [mapc_ow];exact how) i j (by rw [mapc_len];exact hi) (by rw [mapc_sz];exact hj)
    rw [hcell i j hi hj] at this
    split at this
    · exact this
    · rw [ren_io] at this;exact this
  · rcases h3 with ⟨k1,k2,k3⟩|⟨b,o,us,k1,k2,k3,k4⟩
    · exact .inl ⟨by rw [(hι k hk).2];exact k1,List.eq_nil_of_length_eq_zero (by rw [← mapc_len (f:=D.ren ι),k2];rfl),by rw [mapc_kd] at k3;exact k3⟩
    · refine .inr ⟨b,o,us,by rw [(hι k hk).2];exact k1,k2,by rw [mapc_kd,mapc_sz,mapc_len] at k3;exact k3,fun i j hi hj => ?_⟩
      have:=k4 i j (by rw [mapc_len];exact hi) (by rw [mapc_sz];exact hj)
      rw [hcell i j hi hj,mapc_fl,mapc_sz] at this
      obtain ⟨q1,q2,q3⟩:=this
      cases hf:ob.flat with
      | true =>
        rw [hf] at q1 q2
        simp only [if_true] at q1 q2
        have q2':=q2 (.inl trivial)
        exact ⟨fun hno=>.cl _ _ (q2'.toCR hno),fun _=>hoc q2',q3⟩
      | false =>
        rw [hf] at q1 q2
        simp only [Bool.false_eq_true,if_false] at q1 q2
        refine ⟨fun hno=>ren_inv hι (q1 (by rw [ren_io];exact hno)) _ rfl,fun hor => ?_,q3⟩
        rcases hor with h'|h'
        · cases h'
        · have:=q2 (.inr (by rw [ren_io];exact h'))
          rw [ren_own ι h'] at this;exact hoc this
theorem mOf_lt {l:List (Option Ob)} {k:Nat} (h:mOf l k ≠ none):k<l.length:=by
  rcases Nat.lt_or_ge k l.length with h'|h'
  · exact h'
  · exfalso;apply h;simp [mOf,List.getElem?_eq_none h']
theorem mAll_get {l:List Ob} {k:Nat} {ob:Ob} (h:mAll l k=some ob):l[k]?=some ob:=by
  unfold mAll mOf at h
  rw [List.getElem?_map] at h
  cases hk:l[k]? with
  | none=>rw [hk] at h;simp at h
  | some o=>rw [hk] at h;simpa using h
theorem heap_sound {f : FuncId} {d : Option Nat} {K : S → Prop} {raws : List D} {ι : List Nat} {ds : List D} {obs : List Ob} {R : D → List (Option Ob) → Prop} (hn : ι.Nodup) (hlt : ∀ x, x ∈ ι → x < s.N) (hlen : ι.length = obs.length)
    (hd:raws=ds.map (D.ren (iotaO ι s.N))) (hM:∀ k ob,obs[k]?=some ob→s.M (ι.getD k 0)=some (ob.ren (iotaO ι s.N))) (h:SpecH P f ds obs R) (hk:∀ r l,R r l→K ((s.after ι l).put d (r.ren (iotaO ι s.N))))
    (hdst:∀ t,d=some t→t<G.nt∧∀ y,¬ G.T t y) {vs:Array Value} (hsz:vs.size=raws.length) (hv:∀ i,i<raws.length→DR w A β s.N (raws.getD i .junk) (vs.getD i undef)) (g:GR G s a w A β γ) :
    Calls P f vs w fun e w' => ∃ x s',e=.returned x∧K s'∧SR G s' (a.put d x) w'∧(ι=[]→Same w w'):=by
  let βc:Nat→Option Nat:=fun k=>if k<ι.length then β (ι.getD k 0) else none
  let γc:Nat→Option (Nat × List Nat):=fun b=>match γ b with
    | some (τ,π)=>(match posn τ ι with|some k=>some (k,π)|none=>none)
    | none=>none
  have hιlt:∀ k,k<ι.length→ι.getD k 0<s.N:=fun k hk=>hlt _ (getD_mem hk)
  have hf1:∀ k,k<ι.length→iotaO ι s.N k=ι.getD k 0:=fun k hk=>by simp only [iotaO,if_pos hk]
  have hf2:∀ k,¬ k<ι.length→iotaO ι s.N k=s.N+(k - ι.length):=fun k hk=>by simp only [iotaO,if_neg hk]
  have hinv:∀ k,iotaO ι s.N k<s.N→k<obs.length∧βc k=β (iotaO ι s.N k):=by
    intro k hk
    by_cases h:k<ι.length
    · rw [hf1 k h];exact ⟨by omega,by simp only [βc,if_pos h]⟩
    · rw [hf2 k h] at hk;omega
  have γc_of:∀ b k π,k<ι.length→γ b=some (ι.getD k 0,π)→γc b=some (k,π):=by
    intro b k π hk hb
    simp only [γc,hb,posn_nodup hn hk]
  have of_γc:∀ b k π,γc b=some (k,π)→k<ι.length∧γ b=some (ι.getD k 0,π):=by
    intro b k π hb
    simp only [γc] at hb
    split at hb
    · next τ π' he =>
      split at hb
      · next k' hp =>
        simp only [Option.some.injEq,Prod.mk.injEq] at hb
        obtain ⟨rfl,rfl⟩:=hb
        obtain ⟨h1,h2⟩:=posn_spec hp
        exact ⟨h1,by rw [he,h2]⟩
      · cases hb
    · cases hb
  have hobs:∀ k ob,mAll obs k=some ob→s.M (ι.getD k 0)=some (ob.ren (iotaO ι s.N))∧k<ι.length:=fun k ob hm=>by
    have h1:=mAll_get hm
    exact ⟨hM k ob h1,by rw [hlen];exact (List.getElem?_eq_some_iff.1 h1).1⟩
  have live:∀ k,k<ι.length→s.M (ι.getD k 0) ≠ none:=fun k hk=>by
    have:obs[k]?=some (obs[k]'(by omega)):=List.getElem?_eq_getElem (by omega)
    rw [hM k _ this];simp
  have H0:HR (Gw.at w A βc γc obs.length (mAll obs)) w A βc γc obs.length (mAll obs):=by
    refine ⟨Bel.refl _ _,fun _ h=>h,fun _ h=>.inl h,g.hr.low,fun k ob hk hm => ?_,fun b k π e1 e2 e3 => ?_,fun k b e1 e2 e3 => ?_,Nat.le_refl _,fun _ h=>h.1,fun k hF=>⟨rfl,fun ob hm => ?_⟩⟩
    · obtain ⟨h1,h2⟩:=hobs k ob hm
      refine ren_inv_or (ι:=iotaO ι s.N) hinv (k:=k) (by rw [hf1 k h2];exact hιlt k h2) (fun b π hb=>γc_of b k π h2 (by rw [hf1 k h2] at hb;exact hb)) ?_
      rw [hf1 k h2];exact g.hr.objs _ _ (hιlt k h2) h1
    · obtain ⟨h1,h2⟩:=of_γc b k π e1
      obtain ⟨q1,q2,q3,q4⟩:=g.hr.own b _ π h2 (hιlt k h1) (live k h1)
      exact ⟨q1,q2,.inr ⟨k,π,e1,e2,e3⟩,q4⟩
    · have hk:k<ι.length:=by omega
      simp only [βc,if_pos hk] at e3
      exact γc_of b k [] hk (g.hr.root _ b (hιlt k hk) (live k hk) e3)
    · have:=hF.2
      rw [hm] at this
      simpa [isFix] using this
  have hdl:raws.length=ds.length:=by rw [hd];simp
  refine (h.2 w A βc γc vs H0 (by rw [hsz,hdl]) (fun i hi=>ren_inv hinv (hv i (by rw [hdl];exact hi)) _ (by rw [hd];exact (map_getD' _ ds i D.junk D.junk hi).symm))).mono ?_
  rintro e w' ⟨x,d',l,A',β',γ',rfl,hR,H,hdr⟩
  have hll:ι.length≤l.length:=by rw [hlen];exact H.ge
  -- the caller's own again
  let N':=s.N+(l.length - ι.length)
  let β2:Nat→Option Nat:=fun τ=>match posn τ ι with|some k=>β' k|none=>if s.N≤τ then β' (τ - s.N+ι.length) else β τ
  let γ2:Nat→Option (Nat × List Nat):=fun b=>match γ' b with
    | some (k,π)=>if mOf l k ≠ none then some (iotaO ι s.N k,π) else (match γ b with|some (τ,π')=>if posn τ ι=none∧τ<s.N then some (τ,π') else none|none=>none)
    | none=>(match γ b with|some (τ,π')=>if posn τ ι=none∧τ<s.N then some (τ,π') else none|none=>none)
  have posN:∀ τ,s.N≤τ→posn τ ι=none:=fun τ h=>posn_none (fun hm=>absurd (hlt τ hm) (by omega))
  have β2ι:∀ k,k<l.length→iotaO ι s.N k<N'∧β2 (iotaO ι s.N k)=β' k:=by
    intro k hk
    by_cases h:k<ι.length
    · rw [hf1 k h]
      exact ⟨Nat.lt_of_lt_of_le (hιlt k h) (Nat.le_add_right _ _),by simp only [β2,posn_nodup hn h]⟩
    · rw [hf2 k h]
      refine ⟨by show _<s.N+(l.length - ι.length);omega,?_⟩
      simp only [β2,posN _ (Nat.le_add_right s.N _),if_pos (Nat.le_add_right s.N (k - ι.length))]
      congr 1;omega
  have β2o:∀ τ,posn τ ι=none→τ<s.N→β2 τ=β τ:=fun τ h1 h2=>by simp only [β2,h1,if_neg (Nat.not_le.2 h2)]
  have baseγ:∀ b τ π,γ2 b=some (τ,π)→(∃ k,γ' b=some (k,π)∧mOf l k ≠ none∧iotaO ι s.N k=τ)∨(posn τ ι=none∧τ<s.N∧γ b=some (τ,π)):=by
    have base:∀ b τ π,(match γ b with|some (τ,π')=>if posn τ ι=none∧τ<s.N then some (τ,π') else none|none=>none)=some (τ,π)→posn τ ι=none∧τ<s.N∧γ b=some (τ,π):=by
      intro b τ π h
      split at h
      · next τ' π' he =>
        split at h
        · next hc=>simp only [Option.some.injEq,Prod.mk.injEq] at h;obtain ⟨rfl,rfl⟩:=h;exact ⟨hc.1,hc.2,he⟩
        · cases h
      · cases h
    intro b τ π h
    simp only [γ2] at h
    split at h
    · next k π' he =>
      split at h
      · next hc=>simp only [Option.some.injEq,Prod.mk.injEq] at h;left;obtain ⟨rfl,rfl⟩:=h;exact ⟨k,he,hc,rfl⟩
      · right;exact base b τ π h
    · right;exact base b τ π h
  have γ2k:∀ b k π,γ' b=some (k,π)→mOf l k ≠ none→γ2 b=some (iotaO ι s.N k,π):=fun b k π h1 h2=>by simp only [γ2,h1,if_pos h2]
  have notO:∀ b τ π,γ b=some (τ,π)→posn τ ι=none→¬ (Gw.at w A βc γc obs.length (mAll obs)).O0 b:=by
    rintro b τ π hb hp ⟨k,π',h1,_⟩
    obtain ⟨h2,h3⟩:=of_γc b k π' h1
    rw [hb] at h3
    simp only [Option.some.injEq,Prod.mk.injEq] at h3
    rw [h3.1,posn_nodup hn h2] at hp;cases hp
  have γ2o:∀ b τ π,γ b=some (τ,π)→posn τ ι=none→τ<s.N→s.M τ ≠ none→γ2 b=some (τ,π):=by
    intro b τ π h1 h2 h3 h4
    have hb:=(g.hr.own b τ π h1 h3 h4).1
    have base:(match γ b with|some (τ,π')=>if posn τ ι=none∧τ<s.N then some (τ,π') else none|none=>none)=some (τ,π):=by simp only [h1,h2,h3,and_self,if_true]
    simp only [γ2]
    split
    · next k π' he =>
      split
      · next hc =>
        exfalso
        rcases (H.own b k π' he (mOf_lt hc) hc).2.2.1 with h|h
        · exact absurd hb (Nat.not_lt.2 h)
        · exact notO b τ π h1 h2 h
      · exact base
    · exact base
  have hAw:∀ b,A b→w'.heap[b]?=w.heap[b]?:=by
    intro b hb
    refine H.below.block b (g.hr.low b hb) ?_
    rintro ⟨k,π,h1,h2,h3⟩
    obtain ⟨h4,h5⟩:=of_γc b k π h1
    exact (g.hr.own b _ π h5 (hιlt k h4) (live k h4)).2.1 hb
  have hOw:∀ b τ π,γ b=some (τ,π)→posn τ ι=none→τ<s.N→s.M τ ≠ none→w'.heap[b]?=w.heap[b]?:=fun b τ π h1 h2 h3 h4 =>
    H.below.block b (g.hr.own b τ π h1 h3 h4).1 (notO b τ π h1 h2)
  have hAA:∀ b,A b→A' b:=H.sub
  have hM2:∀ τ,(s.after ι l).M τ=(match posn τ ι with|some k=>(mOf l k).map (Ob.ren (iotaO ι s.N))|none=>if s.N≤τ then (mOf l (τ - s.N+ι.length)).map (Ob.ren (iotaO ι s.N)) else (s.M τ).map (Ob.mapc (D.lf (lentL s ι)))):=fun _=>rfl
  -- what is old
  have keepF:∀ k,k<ι.length→isFix (s.M (ι.getD k 0))=true→β' k=β (ι.getD k 0):=by
    intro k hk hf
    have hob:obs[k]?=some (obs[k]'(by omega)):=List.getElem?_eq_getElem (by omega)
    have hm:mAll obs k=some (obs[k]'(by omega)):=by simp [mAll,mOf,hob]
    have:(Gw.at w A βc γc obs.length (mAll obs)).F k:=by
      refine ⟨by omega,?_⟩
      rw [hM k _ hob] at hf
      rw [hm]
      simp only [isFix,Ob.ren,mapc_kd] at hf ⊢
      exact hf
    have:=(H.fixd k this).1
    rw [this]
    show βc k=_
    simp only [βc,if_pos hk]
  have NL : NF (lentL s ι) s.N N' β β2 := by
    have key:∀ τ,τ<s.N→(posn τ ι=none∨isFix (s.M τ)=true)→τ<N'∧β2 τ=β τ:=by
      intro τ h1 h2
      refine ⟨Nat.lt_of_lt_of_le h1 (Nat.le_add_right _ _),?_⟩
      cases hp:posn τ ι with
      | none=>exact β2o τ hp h1
      | some k =>
        obtain ⟨q1,q2⟩:=posn_spec hp
        rcases h2 with h|h
        · rw [hp] at h;cases h
        · rw [← q2] at h
          simp only [β2,hp]
          rw [keepF k q1 h,q2]
    refine ⟨fun d h=>by cases d<;>first|rfl|(simp [clJ] at h),fun _ _ _=>rfl,fun _ _ _=>rfl,fun τ sz off n => ?_,fun τ sz i o => ?_,fun τ => ?_⟩
    · simp only [lentL]
      split
      · exact .inl rfl
      · next hc=>right;exact ⟨τ,rfl,fun h=>key τ h (by
          cases hp:posn τ ι with
          | none=>exact .inl rfl
          | some k=>right;cases hf:isFix (s.M τ) with|true=>rfl|false=>exact absurd (.inl ⟨by rw [hp];rfl,hf⟩) hc)⟩
    · simp only [lentL]
      split
      · exact .inl rfl
      · next hc=>right;exact ⟨τ,rfl,fun h=>key τ h (by
          cases hp:posn τ ι with
          | none=>exact .inl rfl
          | some k=>right;cases hf:isFix (s.M τ) with|true=>rfl|false=>exact absurd ⟨by rw [hp];rfl,hf⟩ hc)⟩
    · simp only [lentL]
      split
      · exact .inl rfl
      · next hc=>right;exact ⟨τ,rfl,fun h=>key τ h (by
          cases hp:posn τ ι with
          | none=>exact .inl rfl
          | some k=>right;cases hf:isFix (s.M τ) with|true=>rfl|false=>exact absurd ⟨by rw [hp];rfl,hf⟩ hc)⟩
  have SL:ShF (lentL s ι) s.N β w w':=by
    intro τ sz off n hτ hne b hb arr T hh
    exact H.below.shp b arr T hh
  have NR:NF (renL (iotaO ι s.N)) l.length N' β' β2:=nf_ren β2ι
  have SR2:ShF (renL (iotaO ι s.N)) l.length β' w' w':=(Shp.refl _).f
  have hdr2:=NR.dr (fun _ _=>rfl) (fun _ h=>h) SR2 hdr
  have renO:∀ k ob,mOf l k=some ob→OR w' A' β2 γ2 N' (ob.ren (iotaO ι s.N)) (iotaO ι s.N k):=by
    intro k ob hk
    have hl:mOf l k ≠ none:=by rw [hk];simp
    exact NR.or (H.objs k ob (mOf_lt hl) hk) (β2ι k (mOf_lt hl)).2 (fun _ _=>rfl) (fun _ h=>h) SR2 (fun b π _ hb=>⟨rfl,γ2k b k π hb hl⟩) (fun _ _=>rfl)
  -- an object of the new state
  have cases3:∀ τ,(s.after ι l).M τ ≠ none→(∃ k,mOf l k ≠ none∧iotaO ι s.N k=τ∧(s.after ι l).M τ=(mOf l k).map (Ob.ren (iotaO ι s.N)))∨(posn τ ι=none∧τ<s.N∧s.M τ ≠ none∧(s.after ι l).M τ=(s.M τ).map (Ob.mapc (D.lf (lentL s ι)))):=by
    intro τ h
    rw [hM2] at h ⊢
    cases hp:posn τ ι with
    | some k =>
      rw [hp] at h
      obtain ⟨q1,q2⟩:=posn_spec hp
      left;exact ⟨k,fun e=>by simp only [e,Option.map_none] at h;exact h rfl,by rw [hf1 k q1,q2],rfl⟩
    | none =>
      rw [hp] at h
      simp only at h ⊢
      by_cases hN:s.N≤τ
      · rw [if_pos hN] at h ⊢
        left
        refine ⟨τ - s.N+ι.length,fun e=>by simp only [e,Option.map_none] at h;exact h rfl,?_,rfl⟩
        rw [hf2 _ (by omega)];omega
      · rw [if_neg hN] at h ⊢
        right;exact ⟨trivial,by omega,fun e=>by simp only [e,Option.map_none] at h;exact h rfl,rfl⟩
  have hmz:Mz G.g.w0.heap.size a.defers w' A' G.z:=by
    have no:∀ b,(Gw.at w A βc γc obs.length (mAll obs)).O0 b→b<w.heap.size∧nOth w b:=fun b ⟨k,π,h1,_⟩=>by
      obtain ⟨h2,h3⟩:=of_γc b k π h1
      obtain ⟨q1,_,_,q4⟩:=g.hr.own b _ π h3 (hιlt k h2) (live k h2)
      exact ⟨q1,q4⟩
    refine Mz.mono g.defers (fun b o hb ho => ?_) (fun b hb => ?_)
    · rw [H.below.block b (lt_of_get hb) (fun hO=>by have:=(no b hO).2 o hb;rw [ho] at this;cases this)];exact hb
    · rcases H.up b hb with h|h|h
      · exact .inl h
      · exact .inr (.inr ((no b h).2.wch (no b h).1))
      · exact .inr (.inl h)
  refine ⟨x,_,rfl,hk d' l hR,⟨A',β2,γ2,GR.put ⟨g.size,hmz,⟨g.hr.below.trans H.below (fun b hb hO => ?_),fun b hb=>hAA b (g.hr.sub b hb),fun b hb => ?_,H.low,fun τ ob hτ hm => ?_,fun b τ π e1 e2 e3 => ?_,fun τ b e1 e2 e3 => ?_,Nat.le_trans g.hr.ge (Nat.le_add_right _ _),g.hr.flt,fun τ hF => ?_⟩,
    fun t=>NL.dr hAw hAA SL (g.slots t),fun t d ht=>(g.keep t d ht).mono hAw hAA (fun τ h=>⟨h,rfl⟩)⟩ hdr2 hdst⟩,fun hι b hb=>H.below.block b hb (fun ⟨k,π,q1,q2,_⟩=>by rw [← hlen,hι] at q2;exact absurd q2 (by simp))⟩
  · obtain ⟨k,π,h1,_⟩:=hO
    obtain ⟨h2,h3⟩:=of_γc b k π h1
    rcases (g.hr.own b _ π h3 (hιlt k h2) (live k h2)).2.2.1 with h|h
    · omega
    · exact h
  · rcases H.up b hb with h|h|h
    · exact g.hr.up b h
    · obtain ⟨k,π,h1,_⟩:=h
      obtain ⟨h2,h3⟩:=of_γc b k π h1
      rcases (g.hr.own b _ π h3 (hιlt k h2) (live k h2)).2.2.1 with h|h
      · exact .inr (.inr h)
      · exact .inr (.inl h)
    · exact .inr (.inr (Nat.le_trans g.hr.below.size h))
  · rcases cases3 τ (by rw [hm];simp) with ⟨k,q1,rfl,q3⟩|⟨q1,q2,q3,q4⟩
    · rw [q3] at hm
      simp only [Option.map_eq_some_iff] at hm
      obtain ⟨ob0,h1,rfl⟩:=hm
      exact renO k ob0 h1
    · rw [q4] at hm
      simp only [Option.map_eq_some_iff] at hm
      obtain ⟨ob0,h1,rfl⟩:=hm
      exact NL.or (g.hr.objs τ ob0 q2 h1) (β2o τ q1 q2) hAw hAA SL (fun b π _ hb=>⟨hOw b τ π hb q1 q2 q3,γ2o b τ π hb q1 q2 q3⟩) (fun b hb=>hOw b τ [] (g.hr.root τ b q2 q3 hb) q1 q2 q3)
  · rcases baseγ b τ π e1 with ⟨k,h1,h2,rfl⟩|⟨h1,h2,h3⟩
    · obtain ⟨q1,q2,q3,q4⟩:=H.own b k π h1 (mOf_lt h2) h2
      refine ⟨q1,q2,?_,q4⟩
      rcases q3 with h|⟨k',π',h,_⟩
      · exact .inl (Nat.le_trans g.hr.below.size h)
      · obtain ⟨h4,h5⟩:=of_γc b k' π' h
        exact (g.hr.own b _ π' h5 (hιlt k' h4) (live k' h4)).2.2.1
    · have hm:s.M τ ≠ none:=by
        rcases cases3 τ e3 with ⟨k,q1,q2,q3⟩|⟨_,_,q3,_⟩
        · exfalso
          by_cases h:k<ι.length
          · rw [hf1 k h] at q2;rw [← q2,posn_nodup hn h] at h1;cases h1
          · rw [hf2 k h] at q2;omega
        · exact q3
      obtain ⟨q1,q2,q3,q4⟩:=g.hr.own b τ π h3 h2 hm
      refine ⟨Nat.lt_of_lt_of_le q1 H.below.size,fun hA => ?_,q3,fun o ho=>q4 o (by rw [← hOw b τ π h3 h1 h2 hm];exact ho)⟩
      rcases H.up b hA with h|h|h
      · exact q2 h
      · exact notO b τ π h3 h1 h
      · exact absurd q1 (Nat.not_lt.2 h)
  · rcases cases3 τ e2 with ⟨k,q1,rfl,q3⟩|⟨q1,q2,q3,q4⟩
    · rw [(β2ι k (mOf_lt q1)).2] at e3
      exact γ2k b k [] (H.root k b (mOf_lt q1) q1 e3) q1
    · rw [β2o τ q1 q2] at e3
      exact γ2o b τ [] (g.hr.root τ b q2 q3 e3) q1 q2 q3
  · have hτ:τ<s.N:=Nat.lt_of_lt_of_le (g.hr.flt τ hF) g.hr.ge
    obtain ⟨f1,f2⟩:=g.hr.fixd τ hF
    cases hp:posn τ ι with
    | none =>
      refine ⟨by rw [β2o τ hp hτ];exact f1,fun ob hm => ?_⟩
      rw [hM2,hp] at hm
      simp only [if_neg (Nat.not_le.2 hτ),Option.map_eq_some_iff] at hm
      obtain ⟨ob0,h1,rfl⟩:=hm
      rw [mapc_kd];exact f2 ob0 h1
    | some k =>
      obtain ⟨q1,q2⟩:=posn_spec hp
      have hfix:isFix (s.M τ)=true:=by
        have:=live k q1
        rw [q2] at this
        cases hm:s.M τ with
        | none=>exact absurd hm this
        | some ob=>simp [isFix,f2 ob hm]
      have hFk:(Gw.at w A βc γc obs.length (mAll obs)).F k:=by
        have hob:obs[k]?=some (obs[k]'(by omega)):=List.getElem?_eq_getElem (by omega)
        have hm:mAll obs k=some (obs[k]'(by omega)):=by simp [mAll,mOf,hob]
        refine ⟨by omega,?_⟩
        rw [← q2,hM k _ hob] at hfix
        rw [hm]
        simp only [isFix,Ob.ren,mapc_kd] at hfix ⊢
        exact hfix
      refine ⟨?_,fun ob hm => ?_⟩
      · simp only [β2,hp]
        rw [keepF k q1 (by rw [q2];exact hfix),q2];exact f1
      · rw [hM2,hp] at hm
        simp only [Option.map_eq_some_iff] at hm
        obtain ⟨ob0,h1,rfl⟩:=hm
        rw [Ob.ren,mapc_kd];exact (H.fixd k hFk).2 ob0 h1
theorem call_sound {f : FuncId} {d : Option Nat} {K : S → Prop} {raws : List D} (h : CallVC P f d K raws s) : ∀ {A β γ} {vs : Array Value}, (∀ t, d = some t → t < G.nt ∧ ∀ y, ¬ G.T t y) → vs.size = raws.length → (∀ i, i < raws.length → DR w A β s.N (raws.getD i .junk) (vs.getD i undef)) → GR G s a w A β γ →
    Calls P f vs w fun e w' => ∃ x s',e=.returned x∧K s'∧SR G s' (a.put d x) w':=by
  induction h with
  | pure raws s ds' R hl hS hR =>
    intro A β γ vs hd hsz hv g
    obtain ⟨l1,l2⟩:=hl.spec
    simp only [List.length_map] at l1 l2
    have args:∀ (A':Nat→Prop),(∀ i,i<raws.length→CR w A' (s.view (raws.getD i .junk)) (vs.getD i undef))→∀ i,i<ds'.length→CR w A' (ds'.getD i .junk) (vs.getD i undef):=by
      intro A' h i hi
      have:=l2 i (by omega) w A' _ (by rw [map_getD' _ raws i D.junk D.junk (by omega)];exact h i (by omega))
      exact this
    cases hown:raws.any D.owned with
    | false =>
      refine (hS.2 w A _ g.hr.low (by omega) (args A fun i hi=>view_cl (hv i hi) (by
        have:=List.any_eq_false.1 hown (raws.getD i .junk) (getD_mem hi);simpa using this))).mono ?_
      rintro e w' ⟨x,dd,rfl,hRd,hb,hc⟩
      refine ⟨x,_,rfl,(hR dd hRd).2,fun b=>A b∨(w.heap.size≤b∧b<w'.heap.size),β,γ,?_⟩
      refine GR.put (GR.extA (g.world hb) (fun b h=>.inl h) (fun b hb' => ?_) (Mz.mono g.defers (fun b o hh _=>(hb.block b (lt_of_get hh)).trans hh) (fun b h=>h.elim .inl fun h=>.inr (.inl h.1)))) (.cl _ _ hc) hd
      rcases hb' with h|h
      · exact .inl h
      · refine .inr ⟨Nat.le_trans g.hr.below.size h.1,h.2,fun τ π h1 h2 => ?_⟩
        cases hm:s.M τ with
        | none=>rfl
        | some ob=>exact absurd (g.hr.own b τ π h1 h2 (by rw [hm];simp)).1 (Nat.not_lt.2 h.1)
    | true =>
      refine (hS.2 w (own s A γ) _ (fun b hb => ?_) (by omega) (args _ fun i hi=>view_cr g (hv i hi))).mono ?_
      · rcases hb with h|⟨τ,π,h1,h2,h3⟩
        · exact g.hr.low b h
        · exact (g.hr.own b τ π h1 h2 h3).1
      rintro e w' ⟨x,dd,rfl,hRd,hb,hc⟩
      obtain ⟨hp,hk⟩:=hR dd hRd
      exact ⟨x,_,rfl,hk,A,β,γ,GR.put (g.world hb) (.cl _ _ (plain_cr hc (hp hown))) hd⟩
  | ghost raws s s' f hg h ih =>
    intro A β γ vs hd hsz hv g
    obtain ⟨A1,β1,γ1,g1,k1⟩:=hg.sound g
    refine ih hd (by simpa using hsz) (fun i hi => ?_) g1
    simp only [List.length_map] at hi
    rw [map_getD' _ raws i D.junk D.junk hi];exact k1 _ _ (hv i hi)
  | heap raws s ι ds obs R hn hlt hlen hdd hM hS hk =>
    intro A β γ vs hd hsz hv g
    exact (heap_sound hn hlt hlen hdd hM hS hk hd hsz hv g).mono fun e w' ⟨x,s',h1,h2,h3,_⟩=>⟨x,s',h1,h2,h3⟩
  | fresh raws s ds' R hl hS hR =>
    intro A β γ vs hd hsz hv g
    obtain ⟨l1,l2⟩:=hl.spec
    simp only [List.length_map] at l1 l2
    have args:∀ (A':Nat→Prop),(∀ i,i<raws.length→CR w A' (s.view (raws.getD i .junk)) (vs.getD i undef))→∀ i,i<ds'.length→CR w A' (ds'.getD i .junk) (vs.getD i undef):=by
      intro A' h i hi
      have:=l2 i (by omega) w A' _ (by rw [map_getD' _ raws i D.junk D.junk (by omega)];exact h i (by omega))
      exact this
    refine (hS.2 w (own s A γ) _ (fun b hb => ?_) (by omega) (args _ fun i hi=>view_cr g (hv i hi))).mono ?_
    · rcases hb with h|⟨τ,π,h1,h2,h3⟩
      · exact g.hr.low b h
      · exact (g.hr.own b τ π h1 h2 h3).1
    rintro e w' ⟨x,dd,rfl,hRd,hb,hc⟩
    refine ⟨x,_,rfl,hR dd hRd,fun b=>A b∨(w.heap.size≤b∧b<w'.heap.size),β,γ,?_⟩
    refine GR.put (GR.extA (g.world hb) (fun b h=>.inl h) (fun b hb' => ?_) (Mz.mono g.defers (fun b o hh _=>(hb.block b (lt_of_get hh)).trans hh) (fun b h=>h.elim .inl fun h=>.inr (.inl h.1)))) (.cl _ _ (hc.mono (fun _ _=>rfl) fun _ h=>.inr h)) hd
    rcases hb' with h|h
    · exact .inl h
    · refine .inr ⟨Nat.le_trans g.hr.below.size h.1,h.2,fun τ π h1 h2 => ?_⟩
      cases hm:s.M τ with
      | none=>rfl
      | some ob=>exact absurd (g.hr.own b τ π h1 h2 (by rw [hm];simp)).1 (Nat.not_lt.2 h.1)
theorem args_dr {ys:List O} {args:Array Operand} (hys:args.toList.mapM cO=some ys) (g:GR G s a w A β γ):(args.map a.eval).size=(ys.map s.g).length∧∀ i,i<(ys.map s.g).length→DR w A β s.N ((ys.map s.g).getD i .junk) ((args.map a.eval).getD i undef):=by
  obtain ⟨l⟩:=args
  simp only at hys
  have key:∀ (l:List Operand) (ys:List O),l.mapM cO=some ys→l.length=ys.length∧∀ i,i<ys.length→DR w A β s.N ((ys.map s.g).getD i .junk) ((l.map a.eval).getD i undef):=by
    intro l
    induction l with
    | nil=>intro ys h;simp at h;subst h;exact ⟨rfl,fun i hi=>by simp at hi⟩
    | cons x l ih =>
      intro ys h
      simp only [List.mapM_cons,Option.bind_eq_bind,Option.pure_def,Option.bind_eq_some_iff] at h
      obtain ⟨y,hy,ys',hys,h⟩:=h
      cases h
      obtain ⟨i1,i2⟩:=ih ys' hys
      refine ⟨by simp [i1],fun i hi => ?_⟩
      cases i with
      | zero=>simpa using g.evalO hy
      | succ i=>simpa using i2 i (by simpa using hi)
  obtain ⟨k1,k2⟩:=key l ys hys
  refine ⟨by simp [k1],fun i hi => ?_⟩
  simp only [List.length_map] at hi
  have:=k2 i hi
  have hl:i<l.length:=by omega
  simpa [List.getD,hl] using this
theorem ef_call {f:FuncId} {args:Array Operand} {ys:List O} {K:S→Prop} (h:CallOp P o f args) (hys:args.toList.mapM cO=some ys) (hd:∀ t,o.dst=some t→t<G.nt∧∀ y,¬ G.T t y)
    (hk:CallVC P f o.dst K (ys.map s.g) s) (g:GR G s a w A β γ):Does false P G a w o K:=by
  intro N hn
  unfold Eff
  rw [run_call h w]
  obtain ⟨a1,a2⟩:=args_dr hys g
  refine (call_sound hk hd a1 a2 g).mono ?_
  rintro e w' ⟨x,s',rfl,hK,hs⟩
  exact ⟨x,rfl,hn _ _ _ hK hs (fun h=>by cases h)⟩
theorem callp_sound {f : FuncId} {d : Option Nat} {K : S → Prop} {raws : List D} (h : CallPC P f d K raws s) : ∀ {A β γ} {vs : Array Value}, (∀ t, d = some t → t < G.nt ∧ ∀ y, ¬ G.T t y) → vs.size = raws.length → (∀ i, i < raws.length → DR w A β s.N (raws.getD i .junk) (vs.getD i undef)) → GR G s a w A β γ →
    Calls P f vs w fun e w' => ∃ x s',e=.returned x∧K s'∧SR G s' (a.put d x) w'∧Same w w':=by
  induction h with
  | pure raws s ds' R hl hS hR =>
    intro A β γ vs hd hsz hv g
    obtain ⟨l1,l2⟩:=hl.spec
    simp only [List.length_map] at l1 l2
    have args:∀ (A':Nat→Prop),(∀ i,i<raws.length→CR w A' (s.view (raws.getD i .junk)) (vs.getD i undef))→∀ i,i<ds'.length→CR w A' (ds'.getD i .junk) (vs.getD i undef):=by
      intro A' h i hi
      have:=l2 i (by omega) w A' _ (by rw [map_getD' _ raws i D.junk D.junk (by omega)];exact h i (by omega))
      exact this
    cases hown:raws.any D.owned with
    | false =>
      refine (hS.2 w A _ g.hr.low (by omega) (args A fun i hi=>view_cl (hv i hi) (by
        have:=List.any_eq_false.1 hown (raws.getD i .junk) (getD_mem hi);simpa using this))).mono ?_
      rintro e w' ⟨x,dd,rfl,hRd,hb,hc⟩
      refine ⟨x,_,rfl,(hR dd hRd).2,⟨fun b=>A b∨(w.heap.size≤b∧b<w'.heap.size),β,γ,?_⟩,Same.below hb⟩
      refine GR.put (GR.extA (g.world hb) (fun b h=>.inl h) (fun b hb' => ?_) (Mz.mono g.defers (fun b o hh _=>(hb.block b (lt_of_get hh)).trans hh) (fun b h=>h.elim .inl fun h=>.inr (.inl h.1)))) (.cl _ _ hc) hd
      rcases hb' with h|h
      · exact .inl h
      · refine .inr ⟨Nat.le_trans g.hr.below.size h.1,h.2,fun τ π h1 h2 => ?_⟩
        cases hm:s.M τ with
        | none=>rfl
        | some ob=>exact absurd (g.hr.own b τ π h1 h2 (by rw [hm];simp)).1 (Nat.not_lt.2 h.1)
    | true =>
      refine (hS.2 w (own s A γ) _ (fun b hb => ?_) (by omega) (args _ fun i hi=>view_cr g (hv i hi))).mono ?_
      · rcases hb with h|⟨τ,π,h1,h2,h3⟩
        · exact g.hr.low b h
        · exact (g.hr.own b τ π h1 h2 h3).1
      rintro e w' ⟨x,dd,rfl,hRd,hb,hc⟩
      obtain ⟨hp,hk⟩:=hR dd hRd
      exact ⟨x,_,rfl,hk,⟨A,β,γ,GR.put (g.world hb) (.cl _ _ (plain_cr hc (hp hown))) hd⟩,Same.below hb⟩
  | ghost raws s s' f hg h ih =>
    intro A β γ vs hd hsz hv g
    obtain ⟨A1,β1,γ1,g1,k1⟩:=hg.sound g
    refine ih hd (by simpa using hsz) (fun i hi => ?_) g1
    simp only [List.length_map] at hi
    rw [map_getD' _ raws i D.junk D.junk hi];exact k1 _ _ (hv i hi)
  | heap raws s ds R hdd hS hk =>
    intro A β γ vs hd hsz hv g
    exact (heap_sound (ι:=[]) (obs:=[]) (by simp) (by simp) rfl hdd (by simp) hS hk hd hsz hv g).mono fun e w' ⟨x,s',h1,h2,h3,h4⟩=>⟨x,s',h1,h2,h3,h4 rfl⟩
  | fresh raws s ds' R hl hS hR =>
    intro A β γ vs hd hsz hv g
    obtain ⟨l1,l2⟩:=hl.spec
    simp only [List.length_map] at l1 l2
    have args:∀ (A':Nat→Prop),(∀ i,i<raws.length→CR w A' (s.view (raws.getD i .junk)) (vs.getD i undef))→∀ i,i<ds'.length→CR w A' (ds'.getD i .junk) (vs.getD i undef):=by
      intro A' h i hi
      have:=l2 i (by omega) w A' _ (by rw [map_getD' _ raws i D.junk D.junk (by omega)];exact h i (by omega))
      exact this
    refine (hS.2 w (own s A γ) _ (fun b hb => ?_) (by omega) (args _ fun i hi=>view_cr g (hv i hi))).mono ?_
    · rcases hb with h|⟨τ,π,h1,h2,h3⟩
      · exact g.hr.low b h
      · exact (g.hr.own b τ π h1 h2 h3).1
    rintro e w' ⟨x,dd,rfl,hRd,hb,hc⟩
    refine ⟨x,_,rfl,hR dd hRd,⟨fun b=>A b∨(w.heap.size≤b∧b<w'.heap.size),β,γ,?_⟩,Same.below hb⟩
    refine GR.put (GR.extA (g.world hb) (fun b h=>.inl h) (fun b hb' => ?_) (Mz.mono g.defers (fun b o hh _=>(hb.block b (lt_of_get hh)).trans hh) (fun b h=>h.elim .inl fun h=>.inr (.inl h.1)))) (.cl _ _ (hc.mono (fun _ _=>rfl) fun _ h=>.inr h)) hd
    rcases hb' with h|h
    · exact .inl h
    · refine .inr ⟨Nat.le_trans g.hr.below.size h.1,h.2,fun τ π h1 h2 => ?_⟩
      cases hm:s.M τ with
      | none=>rfl
      | some ob=>exact absurd (g.hr.own b τ π h1 h2 (by rw [hm];simp)).1 (Nat.not_lt.2 h.1)
theorem ef_callp {gr:Bool} {f:FuncId} {args:Array Operand} {ys:List O} {K:S→Prop} (h:CallOp P o f args) (hys:args.toList.mapM cO=some ys) (hd:∀ t,o.dst=some t→t<G.nt∧∀ y,¬ G.T t y)
    (hk:CallPC P f o.dst K (ys.map s.g) s) (g:GR G s a w A β γ):Does gr P G a w o K:=by
  intro N hn
  unfold Eff
  rw [run_call h w]
  obtain ⟨a1,a2⟩:=args_dr hys g
  refine (callp_sound hk hd a1 a2 g).mono ?_
  rintro e w' ⟨x,s',rfl,hK,hs,hsame⟩
  exact ⟨x,rfl,hn _ _ _ hK hs (fun _=>hsame)⟩
theorem run_callv {x : Operand} {args : Array Operand} {ats : Array TypeId} {f : FuncId} {cs : Array Value} (ho : o.op = .call ⟨.value x, args, ats⟩) (hx : a.eval x = .func (.func f) #[] cs) {fn : Func} (hf : P.funcs[f]? = some fn) (hb : fn.body.isSome = true) (hn : (fn.name == "runtime.NumGoroutine") = false) (w' : World) :
    (execOp a.eval o).run P w'=.ok (.enter f (args.map a.eval++cs)) w':=by
  have hb':fn.body.isNone=false:=by cases hx:fn.body<;>simp_all
  simp only [execOp,ho,resolve,hx,Deferred.ofValue,invoke,callFunc,Array.empty_append,Sem.run_bind,Sem.run_pure,Result.andThen_ok,run_program,hf]
  simp [hn,hb']
theorem callVC_ok {f:FuncId} {d:Option Nat} {K:S→Prop} {raws:List D} (h:CallVC P f d K raws s):FnOk P f:=by
  induction h with
  | pure raws s ds' R hl hS hR=>exact hS.1
  | ghost raws s s' f hg h ih=>exact ih
  | heap raws s ι ds obs R hn hlt hlen hdd hM hS hk=>exact hS.1
  | fresh raws s ds' R hl hS hR=>exact hS.1
theorem ef_callv {x : Operand} {y : O} {args : Array Operand} {ats : Array TypeId} {ys : List O} {K : S → Prop} (ho : o.op = .call ⟨.value x, args, ats⟩) (hx : cO x = some y) (hys : args.toList.mapM cO = some ys) (hd : ∀ t, o.dst = some t → t < G.nt ∧ ∀ y, ¬ G.T t y)
    (hk:kCallv P o.dst K s (ys.map s.g) (s.g y)) (g:GR G s a w A β γ):Does false P G a w o K:=by
  have ex:=g.evalO hx
  unfold kCallv at hk
  split at hk
  · next f ds hf =>
    rw [hf] at ex
    obtain ⟨cs,e,hn,hr⟩ : ∃ cs,a.eval x=.func (.func f) #[] cs∧cs.size=ds.length∧∀ i,i<ds.length→DR w A β s.N (ds.getD i .junk) (cs.getD i undef):=by
      generalize a.eval x=v at ex
      cases ex with
      | cl d x h'=>cases h' with|clo f ds cs hn hr=>exact ⟨cs,rfl,hn,fun i hi=>.cl _ _ (hr i hi)⟩
      | clo f ds cs hn hr=>exact ⟨cs,rfl,hn,hr⟩
    obtain ⟨fn,hfn,hb,hnn⟩:=callVC_ok hk
    intro N hnx
    unfold Eff
    rw [run_callv ho e hfn hb hnn w]
    obtain ⟨a1,a2⟩:=args_dr hys g
    refine (call_sound hk hd (by rw [Array.size_append,List.length_append,a1,hn]) (fun i hi => ?_) g).mono ?_
    · by_cases h:i<(ys.map s.g).length
      · have e1:(ys.map s.g++ds).getD i .junk=(ys.map s.g).getD i .junk:=by simp only [List.getD_eq_getElem?_getD];rw [List.getElem?_append_left h]
        have e2:(args.map a.eval++cs).getD i undef=(args.map a.eval).getD i undef:=by simp only [Array.getD_eq_getD_getElem?];rw [Array.getElem?_append_left (by omega)]
        rw [e1,e2];exact a2 i h
      · rw [List.length_append] at hi
        have e1:(ys.map s.g++ds).getD i .junk=ds.getD (i - (ys.map s.g).length) .junk:=by simp only [List.getD_eq_getElem?_getD];rw [List.getElem?_append_right (by omega)]
        have e2:(args.map a.eval++cs).getD i undef=cs.getD (i - (ys.map s.g).length) undef:=by simp only [Array.getD_eq_getD_getElem?];rw [Array.getElem?_append_right (by omega),a1]
        rw [e1,e2];exact hr _ (by omega)
    · rintro e w' ⟨x,s',rfl,hK,hs⟩
      exact ⟨x,rfl,hnx _ _ _ hK hs (fun h=>by cases h)⟩
  · exact hk.elim
theorem pure_does {K:S→Prop} (h:PU P G a w o (putS o.dst K)) (hd:∀ t,o.dst=some t→t<G.nt∧∀ y,¬ G.T t y):Does false P G a w o K:=by
  obtain ⟨s',A',β',γ',d,v,h1,g,h2,h3⟩:=h
  exact Does.value (h3 w (fun _=>Same.refl w)) h1 ⟨A',β',γ',g.put h2 hd⟩
theorem vcI_pu {i:MI} {d:Option Nat} {K:S→Prop} (hq:i.quiet=true):vcI P i d K s=puI i s (putS d K):=by
  cases i<;>first|rfl|simp [MI.quiet] at hq
end
end Go.Dm
