/-
 Texts of this claim, one behind another.
-/
import Derived.Test.YtcclchnbjpncdaaDmQ
set_option linter.unusedSimpArgs false
set_option linter.unnecessarySimpa false
set_option linter.unusedVariables false
namespace Go.Dm
open Go.RowKit
section
variable {P:Program} {G:Gh} {s:S} {a:Act} {w:World} {A:Nat→Prop} {β:Nat→Option Nat} {γ:Nat→Option (Nat × List Nat)} {o:Oper}
theorem optB {c:Operand→Option O} {x:Option Operand} {y:Option O} (h:(match x with|some l=>(c l).map some|none=>some none)=some y):(x=none∧y=none) ∨ ∃ p q,x=some p∧y=some q∧c p=some q:=by
  cases x with
  | none=>left;simp at h;exact ⟨rfl,h.symm⟩
  | some l =>
    right
    simp only [Option.map_eq_some_iff] at h
    obtain ⟨q,h1,h2⟩:=h
    exact ⟨l,q,rfl,h2.symm,h1⟩
theorem pu_all0 {i : MI} {kk : S → D → Prop} (hc : cI0 P o = some i) (hq : i.quiet = true) (h : puI i s kk) (g : GR G s a w A β γ) : PU P G a w o kk := by
  unfold cI0 at hc
  split at hc
  · next x ho =>
    simp only [Option.map_eq_some_iff] at hc
    obtain ⟨y,hy,rfl⟩:=hc
    exact PU.of g (pu_mov (.inl ho) hy h g)
  · next x ho =>
    split at hc
    · split at hc
      · simp only [Option.map_eq_some_iff] at hc
        obtain ⟨y,hy,rfl⟩:=hc
        exact PU.of g (pu_mov (.inr ho) hy h g)
      · simp only [Option.bind_eq_bind,Option.pure_def,Option.bind_eq_some_iff,Option.some.injEq] at hc
        obtain ⟨_,_,_,_,rfl⟩:=hc
        simp [MI.quiet] at hq
    · simp only [Option.map_eq_some_iff] at hc
      obtain ⟨y,hy,rfl⟩:=hc
      exact PU.of g (pu_mov (.inr ho) hy h g)
  · next c x y ho =>
    simp only [Option.bind_eq_bind,Option.pure_def,Option.bind_eq_some_iff,Option.some.injEq] at hc
    obtain ⟨c',h1,x',h2,y',h3,rfl⟩:=hc
    exact PU.of g (pu_pick ho h1 h2 h3 h g)
  · simp only [Option.bind_eq_bind,Option.pure_def,Option.bind_eq_some_iff] at hc
    obtain ⟨z,h1,hc⟩:=hc
    split at hc
    · cases hc;simp [MI.quiet] at hq
    · cases hc
  · simp only [Option.bind_eq_bind,Option.pure_def,Option.bind_eq_some_iff] at hc
    obtain ⟨z,h1,hc⟩:=hc
    split at hc
    · simp only [Option.bind_eq_some_iff,Option.some.injEq] at hc
      obtain ⟨_,_,rfl⟩:=hc;simp [MI.quiet] at hq
    · cases hc
  · next t parts ho =>
    split at hc
    · next fs hu =>
      simp only [Option.bind_eq_bind,Option.bind_eq_some_iff] at hc
      obtain ⟨zero,h1,ps,h2,hc⟩:=hc
      split at hc
      · next hall=>cases hc;exact PU.of g (pu_bld ho hu h1 h2 hall h g)
      · cases hc
    · cases hc
  · simp only [Option.bind_eq_bind,Option.pure_def,Option.bind_eq_some_iff] at hc
    obtain ⟨e,h1,sz,h2,ag,h3,hc⟩:=hc
    split at hc
    · split at hc
      · simp only [Option.bind_eq_some_iff,Option.some.injEq] at hc
        obtain ⟨_,_,rfl⟩:=hc;simp [MI.quiet] at hq
      · cases hc
    · cases hc
  · next t x ho =>
    simp only [Option.bind_eq_bind,Option.pure_def,Option.bind_eq_some_iff] at hc
    obtain ⟨sz,h1,hc⟩:=hc
    split at hc
    · next hag =>
      simp only [Option.bind_eq_some_iff,Option.some.injEq] at hc
      obtain ⟨y,hy,rfl⟩:=hc
      rcases kLdw_cases h with h|⟨s',hg,h⟩
      · exact PU.of g (pu_ldn ho hag h1 hy h g)
      · obtain ⟨A1,β1,γ1,g1⟩:=hg.sound g
        exact PU.of g1 (pu_ldn ho hag h1 hy h g1)
    · next hag =>
      simp only [Option.bind_eq_some_iff,Option.some.injEq] at hc
      obtain ⟨y,hy,rfl⟩:=hc
      exact pu_ld1 ho hag hy h g
    · cases hc
  · next t x y ho =>
    simp only [Option.bind_eq_bind,Option.pure_def,Option.bind_eq_some_iff] at hc
    obtain ⟨sz,h1,hc⟩:=hc
    split at hc
    · simp only [Option.bind_eq_some_iff,Option.some.injEq] at hc
      obtain ⟨_,_,_,_,rfl⟩:=hc;simp [MI.quiet] at hq
    · split at hc
      · simp only [Option.bind_eq_some_iff,Option.some.injEq] at hc
        obtain ⟨_,_,_,_,rfl⟩:=hc;simp [MI.quiet] at hq
      · cases hc
    · cases hc
  · next op t x y u ho =>
    split at hc
    · next hb =>
      split at hc
      · simp only [Option.bind_eq_bind,Option.pure_def,Option.bind_eq_some_iff,Option.some.injEq] at hc
        obtain ⟨x',h1,y',h2,rfl⟩:=hc
        exact PU.of g (pu_eqb (neg:=false) ho hb h1 h2 h g)
      · simp only [Option.bind_eq_bind,Option.pure_def,Option.bind_eq_some_iff,Option.some.injEq] at hc
        obtain ⟨x',h1,y',h2,rfl⟩:=hc
        exact PU.of g (pu_eqb (neg:=true) ho hb h1 h2 h g)
      · cases hc
    · split at hc
      · simp only [Option.bind_eq_bind,Option.pure_def,Option.bind_eq_some_iff,Option.some.injEq] at hc
        obtain ⟨x',h1,y',h2,rfl⟩:=hc
        exact PU.of g (pu_bin ho h1 h2 h g)
      · split at hc
        · next ht hy =>
          simp only [Option.map_eq_some_iff] at hc
          obtain ⟨x',hx,rfl⟩:=hc
          exact PU.of g (pu_isnil (neg:=false) ho ht hx hy h g)
        · next ht hy =>
          simp only [Option.map_eq_some_iff] at hc
          obtain ⟨x',hx,rfl⟩:=hc
          exact PU.of g (pu_isnil (neg:=true) ho ht hx hy h g)
        · cases hc
  · next op t x ho =>
    split at hc
    · simp only [Option.map_eq_some_iff] at hc
      obtain ⟨y,hy,rfl⟩:=hc
      exact PU.of g (pu_not ho hy h g)
    · simp only [Option.map_eq_some_iff] at hc
      obtain ⟨y,hy,rfl⟩:=hc
      exact PU.of g (pu_neg ho hy h g)
    · cases hc
  · next src dst x ho =>
    split at hc
    · next d1 q1 hs hdt =>
      simp only [Option.map_eq_some_iff] at hc
      obtain ⟨y,hy,rfl⟩:=hc
      exact PU.of g (pu_cvi ho hdt hs hy h g)
    · cases hc
  · next fn first cap ho =>
    split at hc
    · next f =>
      split at hc
      · next hf =>
        simp only [Option.bind_eq_bind,Option.pure_def,Option.bind_eq_some_iff,Option.some.injEq] at hc
        obtain ⟨ds,h1,rfl⟩:=hc
        have:first = #[]:=Array.eq_empty_of_size_eq_zero hf
        subst this
        exact PU.of g (pu_mkf ho h1 h g)
      · cases hc
    · cases hc
  · next t len cap ho =>
    split at hc
    · split at hc
      · simp only [Option.bind_eq_bind,Option.pure_def,Option.bind_eq_some_iff] at hc
        obtain ⟨_,_,_,_,_,_,_,_,hc⟩:=hc
        split at hc
        · cases hc;simp [MI.quiet] at hq
        · cases hc
      · cases hc
    · split at hc
      · simp only [Option.bind_eq_bind,Option.pure_def,Option.bind_eq_some_iff] at hc
        obtain ⟨_,_,_,_,_,_,_,_,hc⟩:=hc
        split at hc
        · cases hc;simp [MI.quiet] at hq
        · cases hc
      · cases hc
    · cases hc
  · next t x lo hi mx ho =>
    split at hc
    · cases hc
    · next hmx =>
      have:mx=none:=by cases mx<;>simp_all
      subst this
      simp only [Option.bind_eq_bind,Option.pure_def,Option.bind_eq_some_iff,Option.some.injEq] at hc
      obtain ⟨e,h1,sz,h2,lo',h3,hi',h4,x',h5,rfl⟩:=hc
      exact PU.of g (pu_sub ho h1 h2 h5 (optB h3) (optB h4) h g)
  · next t x i ho =>
    simp only [Option.bind_eq_bind,Option.pure_def,Option.bind_eq_some_iff] at hc
    obtain ⟨f,h1,z,h2,hc⟩:=hc
    split at hc
    · cases hc
    · next hz =>
      simp only [Option.bind_eq_some_iff,Option.some.injEq] at hc
      obtain ⟨y,hy,rfl⟩:=hc
      exact PU.of g (pu_fld ho h1 h2 hz hy h g)
  · next t x i ho =>
    simp only [Option.bind_eq_bind,Option.pure_def,Option.bind_eq_some_iff] at hc
    obtain ⟨f,h1,z,h2,hc⟩:=hc
    split at hc
    · next hag =>
      simp only [Option.bind_eq_some_iff,Option.some.injEq] at hc
      obtain ⟨y,hy,rfl⟩:=hc
      exact PU.of g (pu_getf ho h1 h2 hag (fun h=>by cases h) hy h g)
    · next hag =>
      split at hc
      · next hz =>
        subst hz
        simp only [Option.bind_eq_some_iff,Option.some.injEq] at hc
        obtain ⟨y,hy,rfl⟩:=hc
        exact PU.of g (pu_getf ho h1 h2 hag (fun _=>rfl) hy h g)
      · cases hc
    · cases hc
  · next t x i ho =>
    split at hc
    · next e hu =>
      simp only [Option.bind_eq_bind,Option.pure_def,Option.bind_eq_some_iff,Option.some.injEq] at hc
      obtain ⟨x',h1,i',h2,sz,h3,rfl⟩:=hc
      exact PU.of g (pu_idx ho hu h3 h1 h2 h g)
    · next n e hu =>
      simp only [Option.bind_eq_bind,Option.pure_def,Option.bind_eq_some_iff,Option.some.injEq] at hc
      obtain ⟨x',h1,i',h2,sz,h3,rfl⟩:=hc
      exact PU.of g (pu_idxa ho hu h3 h1 h2 h g)
    · cases hc
  · next t x i ho =>
    split at hc
    · next n e hu =>
      simp only [Option.bind_eq_bind,Option.pure_def,Option.bind_eq_some_iff] at hc
      obtain ⟨sz,h1,hc⟩:=hc
      split at hc
      · next hag =>
        simp only [Option.bind_eq_some_iff,Option.some.injEq] at hc
        obtain ⟨x',h2,i',h3,rfl⟩:=hc
        exact PU.of g (pu_idxv ho hu h1 hag (fun h=>by cases h) h2 h3 h g)
      · next hag =>
        split at hc
        · next hz =>
          subst hz
          simp only [Option.bind_eq_some_iff,Option.some.injEq] at hc
          obtain ⟨x',h2,i',h3,rfl⟩:=hc
          exact PU.of g (pu_idxv ho hu h1 hag (fun _=>rfl) h2 h3 h g)
        · cases hc
      · cases hc
    · cases hc
  · next x i ho =>
    simp only [Option.bind_eq_bind,Option.pure_def,Option.bind_eq_some_iff,Option.some.injEq] at hc
    obtain ⟨y,hy,rfl⟩:=hc
    exact PU.of g (pu_ext ho hy h g)
  · next x ho =>
    simp only [Option.map_eq_some_iff] at hc
    obtain ⟨y,hy,rfl⟩:=hc
    exact PU.of g (pu_nck ho hy h g)
  · next c ho =>
    obtain ⟨callee,args,ats⟩:=c
    simp only at hc
    split at hc
    · split at hc
      · next x t hx ht =>
        simp only [Option.bind_eq_bind,Option.pure_def,Option.bind_eq_some_iff,Option.some.injEq] at hc
        obtain ⟨e,h1,y,hy,rfl⟩:=hc
        have e1:args = #[x]:=by rw [← Array.toArray_toList (xs:=args),hx]
        have e2:ats = #[t]:=by rw [← Array.toArray_toList (xs:=ats),ht]
        subst e1;subst e2
        exact PU.of g (pu_len ho h1 hy h g)
      · cases hc
    · split at hc
      · next x t hx ht =>
        simp only [Option.bind_eq_bind,Option.pure_def,Option.bind_eq_some_iff,Option.some.injEq] at hc
        obtain ⟨e,h1,y,hy,rfl⟩:=hc
        have e1:args = #[x]:=by rw [← Array.toArray_toList (xs:=args),hx]
        have e2:ats = #[t]:=by rw [← Array.toArray_toList (xs:=ats),ht]
        subst e1;subst e2
        exact PU.of g (pu_cap ho h1 hy h g)
      · cases hc
    · split at hc
      · split at hc
        · simp only [Option.bind_eq_bind,Option.pure_def,Option.bind_eq_some_iff] at hc
          obtain ⟨_,_,_,_,_,_,_,_,hc⟩:=hc
          split at hc
          · simp only [Option.bind_eq_some_iff,Option.some.injEq] at hc
            obtain ⟨_,_,_,_,rfl⟩:=hc;simp [MI.quiet] at hq
          · cases hc
        · simp only [Option.bind_eq_bind,Option.pure_def,Option.bind_eq_some_iff] at hc
          obtain ⟨_,_,_,_,_,_,_,_,_,_,hc⟩:=hc
          split at hc
          · simp only [Option.bind_eq_some_iff,Option.some.injEq] at hc
            obtain ⟨_,_,_,_,rfl⟩:=hc;simp [MI.quiet] at hq
          · cases hc
      · cases hc
    · split at hc
      · next x y hx =>
        simp only [Option.bind_eq_bind,Option.pure_def,Option.bind_eq_some_iff,Option.some.injEq] at hc
        obtain ⟨x',h1,y',h2,rfl⟩:=hc
        have e1:args = #[x,y]:=by rw [← Array.toArray_toList (xs:=args),hx]
        subst e1
        exact PU.of g (pu_min (m:=false) ho h1 h2 h g)
      · cases hc
    · split at hc
      · next x y hx =>
        simp only [Option.bind_eq_bind,Option.pure_def,Option.bind_eq_some_iff,Option.some.injEq] at hc
        obtain ⟨x',h1,y',h2,rfl⟩:=hc
        have e1:args = #[x,y]:=by rw [← Array.toArray_toList (xs:=args),hx]
        subst e1
        exact PU.of g (pu_min (m:=true) ho h1 h2 h g)
      · cases hc
    · split at hc
      · split at hc
        · simp only [Option.bind_eq_bind,Option.pure_def,Option.bind_eq_some_iff,Option.some.injEq] at hc
          obtain ⟨_,_,rfl⟩:=hc;simp [MI.quiet] at hq
        · cases hc
      · cases hc
    · simp only [Option.bind_eq_bind,Option.pure_def,Option.bind_eq_some_iff,Option.some.injEq] at hc
      obtain ⟨_,_,rfl⟩:=hc;simp [MI.quiet] at hq
    · cases hc
  · cases hc
inductive CX (P:Program) (o:Oper):MI→Prop
  | mmk {t kt et ks ka va vz} (ho:o.op=.makeMap t none) (h1:isMapT P t=some (kt,et)) (h2:keyT P kt=some (ks,ka)) (h3:valT P et=some (va,vz)):CX P o (.mmk ks ka va vz)
  | mlk {t kt et x y ok ks ka va vz z x' y'} (ho:o.op=.lookup t x y ok) (h1:isMapT P t=some (kt,et)) (h2:keyT P kt=some (ks,ka)) (h3:valT P et=some (va,vz)) (h4:zOf P et=some z) (h5:z.length=vz) (h6:zShape P et va=true) (hx:cO x=some x') (hy:cO y=some y'):CX P o (.mlk x' y' ks ka va vz ok z)
  | mup {t kt et x y u ks ka va vz x' y' u'} (ho:o.op=.mapUpdate t x y u∨o.op=.insert t x y u) (h1:isMapT P t=some (kt,et)) (h2:keyT P kt=some (ks,ka)) (h3:valT P et=some (va,vz)) (hx:cO x=some x') (hy:cO y=some y') (hu:cO u=some u'):CX P o (.mup x' y' u' ks ka va vz)
  | men {t kt et x y ks ka va vz z x' y'} (ho:o.op=.mapEntry t x y) (h1:isMapT P t=some (kt,et)) (h2:keyT P kt=some (ks,ka)) (h3:valT P et=some (va,vz)) (h4:zOf P et=some z) (h5:z.length=vz) (h6:zShape P et va=true) (hx:cO x=some x') (hy:cO y=some y'):CX P o (.men x' y' ks ka va vz z)
  | mes {t kt et x y u ks ka va vz x' y' u'} (ho:o.op=.entryStore t x y u) (h1:isMapT P t=some (kt,et)) (h2:keyT P kt=some (ks,ka)) (h3:valT P et=some (va,vz)) (hx:cO x=some x') (hy:cO y=some y') (hu:cO u=some u'):CX P o (.mes x' y' u' ks ka va vz)
  | eqs {t u x y ks x' y'} (neg:Bool) (ho:o.op=.binOp (if neg then .neq else .eql) t x y u) (h1:kindsOf P 20 t=some ks) (h2:aggOf P t=some true) (h3:P.keyTypeAt 20 t=true) (h4:P.eqGuardType P.depth t=false) (hx:cO x=some x') (hy:cO y=some y'):CX P o (.eqs neg x' y' ks)
  | bla {t n e parts zero sz ps} (ho:o.op=.build t parts) (hu:P.underlying t=some (.array n e)) (h1:zOf P t=some zero) (h2:szOf P e=some sz) (h3:(parts.toList.mapM fun p=>do pure (p.1,← cO p.2))=some ps):CX P o (.bla zero sz ps)
  | sla {t e x n x'} (ho:o.op=.slice t x none none none) (hu:P.underlying t=some (.array n e)) (h1:szOf P e=some 1) (hx:cO x=some x'):CX P o (.sla x' n)
  | cpy {t u e x y x' y'} (ho:o.op=.call ⟨.builtin .copy,#[x,y],#[t,u]⟩) (ht:isSlice P t=some e) (h1:szOf P e=some 1) (hx:cO x=some x') (hy:cO y=some y'):CX P o (.cpy x' y')
  | mlen {t kt et x x'} (ho:o.op=.call ⟨.builtin .len,#[x],#[t]⟩) (h1:isMapT P t=some (kt,et)) (hx:cO x=some x'):CX P o (.mlen x')
  | rng {t kt et x x'} (ho:o.op=.range t x) (h1:isMapT P t=some (kt,et)) (hx:cO x=some x'):CX P o (.rng x')
  | nxt {x x'} (ho:o.op=.next x false) (hx:cO x=some x'):CX P o (.nxt x')
  | ent {x x'} (ho:o.op=.entry x) (hx:cO x=some x'):CX P o (.ent x')
theorem cX_cases {i : MI} (hc : cX P o = some i) : CX P o i := by
  unfold cX at hc
  split at hc
  · next t r ho =>
    simp only [Option.bind_eq_bind,Option.pure_def,Option.bind_eq_some_iff] at hc
    obtain ⟨⟨kt,et⟩,h1,⟨ks,ka⟩,h2,⟨va,vz⟩,h3,hc⟩:=hc
    simp only at hc h2 h3
    split at hc
    · next hr =>
      cases hc
      have:r=none:=by cases r<;>simp_all
      subst this
      exact .mmk ho h1 h2 h3
    · cases hc
  · next t x y ok ho =>
    simp only [Option.bind_eq_bind,Option.pure_def,Option.bind_eq_some_iff] at hc
    obtain ⟨⟨kt,et⟩,h1,⟨ks,ka⟩,h2,⟨va,vz⟩,h3,z,h4,hc⟩:=hc
    simp only at hc h2 h3 h4
    split at hc
    · next hz =>
      simp only [Option.bind_eq_some_iff,Option.some.injEq] at hc
      obtain ⟨x',hx,y',hy,rfl⟩:=hc
      exact .mlk ho h1 h2 h3 h4 hz.1 hz.2 hx hy
    · cases hc
  · next t x y u ho =>
    simp only [Option.bind_eq_bind,Option.pure_def,Option.bind_eq_some_iff,Option.some.injEq] at hc
    obtain ⟨⟨kt,et⟩,h1,⟨ks,ka⟩,h2,⟨va,vz⟩,h3,x',hx,y',hy,u',hu,rfl⟩:=hc
    exact .mup (.inl ho) h1 h2 h3 hx hy hu
  · next t x y u ho =>
    simp only [Option.bind_eq_bind,Option.pure_def,Option.bind_eq_some_iff,Option.some.injEq] at hc
    obtain ⟨⟨kt,et⟩,h1,⟨ks,ka⟩,h2,⟨va,vz⟩,h3,x',hx,y',hy,u',hu,rfl⟩:=hc
    exact .mup (.inr ho) h1 h2 h3 hx hy hu
  · next t x y ho =>
    simp only [Option.bind_eq_bind,Option.pure_def,Option.bind_eq_some_iff] at hc
    obtain ⟨⟨kt,et⟩,h1,⟨ks,ka⟩,h2,⟨va,vz⟩,h3,z,h4,hc⟩:=hc
    simp only at hc h2 h3 h4
    split at hc
    · next hz =>
      simp only [Option.bind_eq_some_iff,Option.some.injEq] at hc
      obtain ⟨x',hx,y',hy,rfl⟩:=hc
      exact .men ho h1 h2 h3 h4 hz.1 hz.2 hx hy
    · cases hc
  · next t x y u ho =>
    simp only [Option.bind_eq_bind,Option.pure_def,Option.bind_eq_some_iff,Option.some.injEq] at hc
    obtain ⟨⟨kt,et⟩,h1,⟨ks,ka⟩,h2,⟨va,vz⟩,h3,x',hx,y',hy,u',hu,rfl⟩:=hc
    exact .mes ho h1 h2 h3 hx hy hu
  · next op t x y u ho =>
    simp only [Option.bind_eq_bind,Option.bind_eq_some_iff] at hc
    obtain ⟨ks,h1,hc⟩:=hc
    split at hc
    · next hz =>
      split at hc
      · simp only [Option.pure_def,Option.bind_eq_some_iff,Option.some.injEq] at hc
        obtain ⟨x',hx,y',hy,rfl⟩:=hc
        exact .eqs false ho h1 hz.1 hz.2.1 hz.2.2 hx hy
      · simp only [Option.pure_def,Option.bind_eq_some_iff,Option.some.injEq] at hc
        obtain ⟨x',hx,y',hy,rfl⟩:=hc
        exact .eqs true ho h1 hz.1 hz.2.1 hz.2.2 hx hy
      · cases hc
    · cases hc
  · next t parts ho =>
    split at hc
    · next n e hu =>
      simp only [Option.bind_eq_bind,Option.bind_eq_some_iff] at hc
      obtain ⟨zero,h1,sz,h2,ps,h3,hc⟩:=hc
      cases hc
      exact .bla ho hu h1 h2 h3
    · cases hc
  · next t x ho =>
    split at hc
    · next n e hu =>
      simp only [Option.bind_eq_bind,Option.bind_eq_some_iff] at hc
      obtain ⟨sz,h1,hc⟩:=hc
      split at hc
      · next hz =>
        subst hz
        simp only [Option.pure_def,Option.bind_eq_some_iff,Option.some.injEq] at hc
        obtain ⟨x',hx,rfl⟩:=hc
        exact .sla ho hu h1 hx
      · cases hc
    · cases hc
  · next t x ho =>
    simp only [Option.bind_eq_bind,Option.pure_def,Option.bind_eq_some_iff,Option.some.injEq] at hc
    obtain ⟨⟨kt,et⟩,h1,x',hx',rfl⟩:=hc
    exact .rng ho h1 hx'
  · next x str ho =>
    split at hc
    · simp only [Option.map_eq_some_iff] at hc
      obtain ⟨x',hx',rfl⟩:=hc
      exact .nxt ho hx'
    · cases hc
  · next x ho =>
    simp only [Option.map_eq_some_iff] at hc
    obtain ⟨x',hx',rfl⟩:=hc
    exact .ent ho hx'
  · next c ho =>
    obtain ⟨callee,args,ats⟩:=c
    simp only at hc
    split at hc
    · split at hc
      · next x y t u hx ht =>
        simp only [Option.bind_eq_bind,Option.bind_eq_some_iff] at hc
        obtain ⟨e,h1,sz,h2,hc⟩:=hc
        split at hc
        · next hz =>
          subst hz
          simp only [Option.pure_def,Option.bind_eq_some_iff,Option.some.injEq] at hc
          obtain ⟨x',hx',y',hy',rfl⟩:=hc
          have e1:args = #[x,y]:=by rw [← Array.toArray_toList (xs:=args),hx]
          have e2:ats = #[t,u]:=by rw [← Array.toArray_toList (xs:=ats),ht]
          subst e1;subst e2
          exact .cpy ho h1 h2 hx' hy'
        · cases hc
      · cases hc
    · split at hc
      · next x t hx ht =>
        simp only [Option.bind_eq_bind,Option.pure_def,Option.bind_eq_some_iff,Option.some.injEq] at hc
        obtain ⟨⟨kt,et⟩,h1,x',hx',rfl⟩:=hc
        have e1:args = #[x]:=by rw [← Array.toArray_toList (xs:=args),hx]
        have e2:ats = #[t]:=by rw [← Array.toArray_toList (xs:=ats),ht]
        subst e1;subst e2
        exact .mlen ho h1 hx'
      · cases hc
    · cases hc
  · cases hc
theorem cI_cases {i:MI} (hc:cI P o=some i):cX P o=some i∨cI0 P o=some i:=by
  unfold cI at hc
  split at hc
  · next j hj=>cases hc;exact .inl hj
  · exact .inr hc
theorem pu_all {i:MI} {kk:S→D→Prop} (hc:cI P o=some i) (hq:i.quiet=true) (h:puI i s kk) (g:GR G s a w A β γ):PU P G a w o kk:=by
  rcases cI_cases hc with hc|hc
  · cases cX_cases hc with
    | mlk ho h1 h2 h3 h4 h5 h6 hx hy=>exact PU.of g (pu_mlk ho h1 h2 h3 h4 h5 h6 hx hy h g)
    | eqs neg ho h1 h2 h3 h4 hx hy=>exact PU.of g (pu_eqs ho h1 h2 h3 h4 hx hy h g)
    | bla ho hu h1 h2 h3=>exact PU.of g (pu_bla ho hu h1 h2 h3 h g)
    | sla ho hu h1 hx=>exact PU.of g (pu_sla ho hu h1 hx h g)
    | _=>simp [MI.quiet] at hq
  · exact pu_all0 hc hq h g
theorem cX_quiet {i:MI} {K:S→Prop} (hc:cX P o=some i) (hq:¬ i.quiet=true) (hd:∀ t,o.dst=some t→t<G.nt∧∀ y,¬ G.T t y) (h:vcI P i o.dst K s) (g:GR G s a w A β γ):Does i.gr P G a w o K:=by
  cases cX_cases hc with
  | mmk ho h1 h2 h3=>exact ef_mmk ho h2 h3 hd h g
  | mup ho h1 h2 h3 hx hy hu=>exact ef_mup ho h1 h2 h3 hx hy hu hd h g
  | men ho h1 h2 h3 h4 h5 h6 hx hy=>exact ef_men ho h1 h2 h3 h4 h5 h6 hx hy hd h g
  | mes ho h1 h2 h3 hx hy hu=>exact ef_mes ho h2 h3 hx hy hu hd h g
  | mlen ho h1 hx=>exact ef_mlen ho h1 hx hd h g
  | cpy ho ht h1 hx hy=>exact ef_cpy ho ht h1 hx hy hd h g
  | rng ho h1 hx=>exact ef_rng ho h1 hx hd h g
  | nxt ho hx=>exact ef_nxt ho hx hd h g
  | ent ho hx=>exact ef_ent ho hx hd h g
  | _=>exact absurd rfl hq
theorem op_sound {i : MI} {K : S → Prop} (hc : cI P o = some i) (hd : ∀ t, o.dst = some t → t < G.nt ∧ ∀ y, ¬ G.T t y) (h : vcI P i o.dst K s) (g : GR G s a w A β γ) : Does i.gr P G a w o K := by
  by_cases hq:i.quiet=true
  · rw [vcI_pu hq] at h
    have e:i.gr=false:=by cases i<;>first|rfl|(simp [MI.quiet] at hq)
    have h1:=pure_does (pu_all hc hq h g) hd
    rw [← e] at h1
    exact h1
  rcases cI_cases hc with hc|hc
  · exact cX_quiet hc hq hd h g
  unfold cI0 at hc
  split at hc
  · simp only [Option.map_eq_some_iff] at hc
    obtain ⟨y,hy,rfl⟩:=hc
    exact absurd rfl hq
  · next x ho =>
    split at hc
    · split at hc
      · simp only [Option.map_eq_some_iff] at hc
        obtain ⟨y,hy,rfl⟩:=hc
        exact absurd rfl hq
      · simp only [Option.bind_eq_bind,Option.pure_def,Option.bind_eq_some_iff,Option.some.injEq] at hc
        obtain ⟨_,_,_,_,rfl⟩:=hc
        exact ef_nil ho hd h g
    · simp only [Option.map_eq_some_iff] at hc
      obtain ⟨y,hy,rfl⟩:=hc
      exact absurd rfl hq
  · simp only [Option.bind_eq_bind,Option.pure_def,Option.bind_eq_some_iff,Option.some.injEq] at hc
    obtain ⟨c',h1,x',h2,y',h3,rfl⟩:=hc
    exact absurd rfl hq
  · next e ho =>
    simp only [Option.bind_eq_bind,Option.pure_def,Option.bind_eq_some_iff] at hc
    obtain ⟨z,h1,hc⟩:=hc
    split at hc
    · cases hc;exact ef_new ho h1 hd h g
    · cases hc
  · next e x ho =>
    simp only [Option.bind_eq_bind,Option.pure_def,Option.bind_eq_some_iff] at hc
    obtain ⟨z,h1,hc⟩:=hc
    split at hc
    · simp only [Option.bind_eq_some_iff,Option.some.injEq] at hc
      obtain ⟨y,hy,rfl⟩:=hc;exact ef_box ho hy hd h g
    · cases hc
  · split at hc
    · simp only [Option.bind_eq_bind,Option.bind_eq_some_iff] at hc
      obtain ⟨zero,h1,ps,h2,hc⟩:=hc
      split at hc
      · cases hc;exact absurd rfl hq
      · cases hc
    · cases hc
  · next t len parts ho =>
    simp only [Option.bind_eq_bind,Option.pure_def,Option.bind_eq_some_iff] at hc
    obtain ⟨e,h1,sz,h2,ag,h3,hc⟩:=hc
    split at hc
    · split at hc
      · next hp =>
        simp only [Option.bind_eq_some_iff,Option.some.injEq] at hc
        obtain ⟨ys,hys,hz,rfl⟩:=hc
        exact ef_bsl ho h1 h2 (Option.isSome_iff_exists.1 hp.2.2) hp.1 hp.2.1 hys hd h g
      · cases hc
    · cases hc
  · simp only [Option.bind_eq_bind,Option.pure_def,Option.bind_eq_some_iff] at hc
    obtain ⟨sz,h1,hc⟩:=hc
    split at hc
    · simp only [Option.bind_eq_some_iff,Option.some.injEq] at hc
      obtain ⟨y,hy,rfl⟩:=hc
      exact absurd rfl hq
    · simp only [Option.bind_eq_some_iff,Option.some.injEq] at hc
      obtain ⟨y,hy,rfl⟩:=hc
      exact absurd rfl hq
    · cases hc
  · next t x y ho =>
    simp only [Option.bind_eq_bind,Option.pure_def,Option.bind_eq_some_iff] at hc
    obtain ⟨sz,h1,hc⟩:=hc
    split at hc
    · simp only [Option.bind_eq_some_iff,Option.some.injEq] at hc
      obtain ⟨x',h2,y',h3,rfl⟩:=hc
      exact ef_stn ho h1 h2 h3 hd h g
    · split at hc
      · next hz =>
        subst hz
        simp only [Option.bind_eq_some_iff,Option.some.injEq] at hc
        obtain ⟨x',h2,y',h3,rfl⟩:=hc
        exact ef_st1 ho h1 h2 h3 hd h g
      · cases hc
    · cases hc
  · split at hc
    · split at hc
      · simp only [Option.bind_eq_bind,Option.pure_def,Option.bind_eq_some_iff,Option.some.injEq] at hc
        obtain ⟨x',h1,y',h2,rfl⟩:=hc
        exact absurd rfl hq
      · simp only [Option.bind_eq_bind,Option.pure_def,Option.bind_eq_some_iff,Option.some.injEq] at hc
        obtain ⟨x',h1,y',h2,rfl⟩:=hc
        exact absurd rfl hq
      · cases hc
    · split at hc
      · simp only [Option.bind_eq_bind,Option.pure_def,Option.bind_eq_some_iff,Option.some.injEq] at hc
        obtain ⟨x',h1,y',h2,rfl⟩:=hc
        exact absurd rfl hq
      · split at hc
        · simp only [Option.map_eq_some_iff] at hc
          obtain ⟨x',hx,rfl⟩:=hc
          exact absurd rfl hq
        · simp only [Option.map_eq_some_iff] at hc
          obtain ⟨x',hx,rfl⟩:=hc
          exact absurd rfl hq
        · cases hc
  · split at hc
    · simp only [Option.map_eq_some_iff] at hc
      obtain ⟨y,hy,rfl⟩:=hc
      exact absurd rfl hq
    · simp only [Option.map_eq_some_iff] at hc
      obtain ⟨y,hy,rfl⟩:=hc
      exact absurd rfl hq
    · cases hc
  · split at hc
    · simp only [Option.map_eq_some_iff] at hc
      obtain ⟨y,hy,rfl⟩:=hc
      exact absurd rfl hq
    · cases hc
  · split at hc
    · split at hc
      · simp only [Option.bind_eq_bind,Option.pure_def,Option.bind_eq_some_iff,Option.some.injEq] at hc
        obtain ⟨ds,h1,rfl⟩:=hc
        exact absurd rfl hq
      · cases hc
    · cases hc
  · next t len cap ho =>
    split at hc
    · next l c =>
      split at hc
      · next hlc =>
        subst hlc
        simp only [Option.bind_eq_bind,Option.pure_def,Option.bind_eq_some_iff] at hc
        obtain ⟨e,h1,sz,h2,zero,h3,by_,h4,hc⟩:=hc
        split at hc
        · next hz=>cases hc;exact ef_mk ho h1 h2 h3 h4 hz.1 hz.2.1 hz.2.2 rfl hd h g
        · cases hc
      · cases hc
    · next l c =>
      split at hc
      · next hlc =>
        subst hlc
        simp only [Option.bind_eq_bind,Option.pure_def,Option.bind_eq_some_iff] at hc
        obtain ⟨e,h1,sz,h2,zero,h3,by_,h4,hc⟩:=hc
        split at hc
        · next hz=>cases hc;exact ef_mk ho h1 h2 h3 h4 hz.1 hz.2.1 hz.2.2 (show cO (.const (.int .i64 l))=some (.k (.int .i64 l)) from rfl) hd h g
        · cases hc
      · cases hc
    · cases hc
  · split at hc
    · cases hc
    · simp only [Option.bind_eq_bind,Option.pure_def,Option.bind_eq_some_iff,Option.some.injEq] at hc
      obtain ⟨e,h1,sz,h2,lo',h3,hi',h4,x',h5,rfl⟩:=hc
      exact absurd rfl hq
  · simp only [Option.bind_eq_bind,Option.pure_def,Option.bind_eq_some_iff] at hc
    obtain ⟨f,h1,z,h2,hc⟩:=hc
    split at hc
    · cases hc
    · simp only [Option.bind_eq_some_iff,Option.some.injEq] at hc
      obtain ⟨y,hy,rfl⟩:=hc
      exact absurd rfl hq
  · simp only [Option.bind_eq_bind,Option.pure_def,Option.bind_eq_some_iff] at hc
    obtain ⟨f,h1,z,h2,hc⟩:=hc
    split at hc
    · simp only [Option.bind_eq_some_iff,Option.some.injEq] at hc
      obtain ⟨y,hy,rfl⟩:=hc
      exact absurd rfl hq
    · split at hc
      · simp only [Option.bind_eq_some_iff,Option.some.injEq] at hc
        obtain ⟨y,hy,rfl⟩:=hc
        exact absurd rfl hq
      · cases hc
    · cases hc
  · split at hc
    · simp only [Option.bind_eq_bind,Option.pure_def,Option.bind_eq_some_iff,Option.some.injEq] at hc
      obtain ⟨x',h1,i',h2,sz,h3,rfl⟩:=hc
      exact absurd rfl hq
    · simp only [Option.bind_eq_bind,Option.pure_def,Option.bind_eq_some_iff,Option.some.injEq] at hc
      obtain ⟨x',h1,i',h2,sz,h3,rfl⟩:=hc
      exact absurd rfl hq
    · cases hc
  · split at hc
    · simp only [Option.bind_eq_bind,Option.pure_def,Option.bind_eq_some_iff] at hc
      obtain ⟨sz,h1,hc⟩:=hc
      split at hc
      · simp only [Option.bind_eq_some_iff,Option.some.injEq] at hc
        obtain ⟨x',h2,i',h3,rfl⟩:=hc
        exact absurd rfl hq
      · split at hc
        · simp only [Option.bind_eq_some_iff,Option.some.injEq] at hc
          obtain ⟨x',h2,i',h3,rfl⟩:=hc
          exact absurd rfl hq
        · cases hc
      · cases hc
    · cases hc
  · simp only [Option.bind_eq_bind,Option.pure_def,Option.bind_eq_some_iff,Option.some.injEq] at hc
    obtain ⟨y,hy,rfl⟩:=hc
    exact absurd rfl hq
  · simp only [Option.map_eq_some_iff] at hc
    obtain ⟨y,hy,rfl⟩:=hc
    exact absurd rfl hq
  · next c ho =>
    obtain ⟨callee,args,ats⟩:=c
    simp only at hc
    split at hc
    · split at hc
      · simp only [Option.bind_eq_bind,Option.pure_def,Option.bind_eq_some_iff,Option.some.injEq] at hc
        obtain ⟨e,h1,y,hy,rfl⟩:=hc
        exact absurd rfl hq
      · cases hc
    · split at hc
      · simp only [Option.bind_eq_bind,Option.pure_def,Option.bind_eq_some_iff,Option.some.injEq] at hc
        obtain ⟨e,h1,y,hy,rfl⟩:=hc
        exact absurd rfl hq
      · cases hc
    · split at hc
      · next x y t u hx ht =>
        split at hc
        · next hin =>
          simp only [Option.bind_eq_bind,Option.pure_def,Option.bind_eq_some_iff] at hc
          obtain ⟨e,h1,sz,h2,zero,h3,by_,h4,hc⟩:=hc
          split at hc
          · next hz =>
            simp only [Option.bind_eq_some_iff,Option.some.injEq] at hc
            obtain ⟨x',h6,y',h7,rfl⟩:=hc
            have e1:args = #[x,y]:=by rw [← Array.toArray_toList (xs:=args),hx]
            have e2:ats = #[t,u]:=by rw [← Array.toArray_toList (xs:=ats),ht]
            subst e1;subst e2
            exact ef_appz ho h1 hin h2 h3 h4 hz.1 hz.2.1 hz.2.2 h6 h7 hd h g
          · cases hc
        · next hin =>
          simp only [Option.bind_eq_bind,Option.pure_def,Option.bind_eq_some_iff] at hc
          obtain ⟨e,h1,e2,h2,sz,h3,sz2,h4,by_,h5,hc⟩:=hc
          split at hc
          · next hz =>
            simp only [Option.bind_eq_some_iff,Option.some.injEq] at hc
            obtain ⟨x',h6,y',h7,rfl⟩:=hc
            have e1:args = #[x,y]:=by rw [← Array.toArray_toList (xs:=args),hx]
            have e2':ats = #[t,u]:=by rw [← Array.toArray_toList (xs:=ats),ht]
            subst e1;subst e2'
            obtain ⟨q1,q2,q3,q4⟩:=hz
            obtain ⟨zero,hzero⟩:=Option.isSome_iff_exists.1 q4.1
            obtain ⟨v,hv,hn,_⟩:=zOf_spec hzero
            refine ef_app ⟨⟨t,u,e2,ho,isSlice_spec h1,isSlice_spec h2⟩,h3,h5,q2,q3,v,hv,?_⟩ h6 h7 hd h g
            rw [hn]
            have:=q4.2
            rw [hzero] at this
            simpa using this
          · cases hc
      · cases hc
    · split at hc
      · simp only [Option.bind_eq_bind,Option.pure_def,Option.bind_eq_some_iff,Option.some.injEq] at hc
        obtain ⟨x',h1,y',h2,rfl⟩:=hc
        exact absurd rfl hq
      · cases hc
    · split at hc
      · simp only [Option.bind_eq_bind,Option.pure_def,Option.bind_eq_some_iff,Option.some.injEq] at hc
        obtain ⟨x',h1,y',h2,rfl⟩:=hc
        exact absurd rfl hq
      · cases hc
    · next f =>
      split at hc
      · next fn hfn =>
        split at hc
        · next hb =>
          simp only [Option.bind_eq_bind,Option.pure_def,Option.bind_eq_some_iff,Option.some.injEq] at hc
          obtain ⟨ys,hys,rfl⟩:=hc
          exact ef_call ⟨⟨ats,ho⟩,fn,hfn,hb.1,hb.2⟩ hys hd h g
        · cases hc
      · cases hc
    · next t =>
      simp only [Option.bind_eq_bind,Option.pure_def,Option.bind_eq_some_iff,Option.some.injEq] at hc
      obtain ⟨ys,hys,rfl⟩:=hc
      exact ef_callv (x:=.tmp t) (y:=.t t) ho rfl hys hd h g
    · cases hc
  · cases hc
theorem opP_sound {i : MI} {K : S → Prop} (hc : cI P o = some i) (hd : ∀ t, o.dst = some t → t < G.nt ∧ ∀ y, ¬ G.T t y) (h : vcI P i.toP o.dst K s) (g : GR G s a w A β γ) : Does i.toP.gr P G a w o K := by
  by_cases hq : ∃ f as,i=.call f as
  · obtain ⟨f, as, rfl⟩ := hq
    have hc:cI0 P o=some (.call f as):=by
      rcases cI_cases hc with hc|hc
      · exfalso
        cases cX_cases hc
      · exact hc
    have hcall : ∃ c,o.op=.call c:=by
      unfold cI0 at hc
      split at hc
      all_goals first
        | (next c ho=>exact ⟨c,ho⟩;done)
        | (exfalso
           repeat' first
             | (cases hc;done)
             | (split at hc)
             | (obtain ⟨_,_,hc⟩:=hc)
             | (simp only [Option.bind_eq_bind,Option.pure_def,Option.bind_eq_some_iff,Option.map_eq_some_iff] at hc))
    obtain ⟨⟨callee,args,ats⟩,ho⟩:=hcall
    unfold cI0 at hc
    rw [ho] at hc
    simp only at hc
    split at hc
    all_goals first
      | (next f' =>
          split at hc
          · next fn hfn =>
            split at hc
            · next hb =>
              simp only [Option.bind_eq_bind,Option.pure_def,Option.bind_eq_some_iff,Option.some.injEq] at hc
              obtain ⟨ys,hys,hc⟩:=hc
              cases hc
              exact ef_callp ⟨⟨ats,ho⟩,fn,hfn,hb.1,hb.2⟩ hys hd h g
            · cases hc
          · cases hc)
      | (exfalso
         repeat' first
           | (cases hc;done)
           | (split at hc)
           | (obtain ⟨_,_,hc⟩:=hc)
           | (simp only [Option.bind_eq_bind,Option.pure_def,Option.bind_eq_some_iff,Option.map_eq_some_iff] at hc))
  · have e:i.toP=i:=by cases i<;>first|rfl|exact absurd ⟨_,_,rfl⟩ hq
    rw [e] at h ⊢
    exact op_sound hc hd h g
end
end Go.Dm

namespace Go.Dm
open Go.RowKit
section
variable {P:Program} {G:Gh} {s:S} {a:Act} {w:World} {A:Nat→Prop} {β:Nat→Option Nat} {γ:Nat→Option (Nat × List Nat)} {o:Oper}
def Free (G:Gh) (l:List Nat):Prop:=∀ t,t ∈ l→t<G.nt∧∀ y,¬ G.T t y
theorem cOp_spec {nt:Nat} {ops:List Oper} {op:Op1} (h:cOp P nt ops o=some op):op.i=(cI P o).getD .bad∧op.d=o.dst∧(∀ t,o.dst=some t→t<nt) ∧
    ((op.g=none∧o.guard=none) ∨ ∃ j b gt,o.guard=some (j,b)∧(ops[j]?).bind (·.dst)=some gt∧gt<nt∧op.g=some (gt,b)):=by
  unfold cOp at h
  simp only [Option.bind_eq_bind,Option.pure_def,Option.bind_eq_some_iff] at h
  obtain ⟨d,h2,h⟩:=h
  have hd:d=o.dst∧∀ t,o.dst=some t→t<nt:=by
    cases hdst:o.dst with
    | none=>rw [hdst] at h2;simp at h2;exact ⟨h2.symm,fun t e=>by cases e⟩
    | some t =>
      rw [hdst] at h2
      simp only at h2
      split at h2
      · next hlt=>simp at h2;exact ⟨h2.symm,fun u e=>by cases e;exact hlt⟩
      · cases h2
  split at h
  · next hg=>simp only [Option.some.injEq] at h;subst h;exact ⟨rfl,hd.1,hd.2,.inl ⟨rfl,hg⟩⟩
  · next j b hg =>
    simp only [Option.bind_eq_some_iff] at h
    obtain ⟨gt,h3,h⟩:=h
    split at h
    · next hlt=>cases h;exact ⟨rfl,hd.1,hd.2,.inr ⟨j,b,gt,hg,by simpa [Option.bind_eq_some_iff] using h3,hlt,rfl⟩⟩
    · cases h
theorem wanted_none {ops:Array Oper} (h:o.guard=none):Region.wanted o (yielded ops a.tmps)=true:=by simp [Region.wanted,h]
theorem wanted_some {ops:Array Oper} {j gt:Nat} {b t:Bool} (h:o.guard=some (j,b)) (hj:(ops[j]?).bind (·.dst)=some gt) (hv:a.tmps.getD gt undef=.bool t) (hlt:gt<a.tmps.size):Region.wanted o (yielded ops a.tmps)=(t == b):=by
  have:a.tmps[gt]?=some (.bool t):=by
    have h1:a.tmps[gt]=.bool t:=by simpa [hlt] using hv
    rw [Array.getElem?_eq_getElem hlt,h1]
  simp [Region.wanted,h,yielded,hj,this]
theorem Free.dst {l:List Op1} {op:Op1} {r:List Op1} (h:Free G (asgOps (op::r))) (_hl:l=op::r):(∀ t,op.d=some t→t<G.nt∧∀ y,¬ G.T t y)∧(∀ t b,op.g=some (t,b)→t<G.nt∧∀ y,¬ G.T t y)∧Free G (asgOps r):=by
  refine ⟨fun t e=>h t ?_,fun t b e=>h t ?_,fun t ht=>h t ?_⟩
  · simp [asgOps,e]
  · simp [asgOps,e]
  · simp only [asgOps,List.mem_append,List.mem_filterMap,List.mem_cons] at ht ⊢
    rcases ht with ⟨x,h1,h2⟩|⟨x,h1,h2⟩
    · exact .inl ⟨x,.inr h1,h2⟩
    · exact .inr ⟨x,.inr h1,h2⟩
theorem getD_bad {x:Option MI} {i:MI} (h:i=x.getD .bad):x=some i∨i=.bad:=by
  cases x with
  | none=>exact .inr h
  | some y=>exact .inl (by rw [h];rfl)
theorem getD_quiet {x:Option MI} {i:MI} (h:i=x.getD .bad) (hq:i.quiet=true):x=some i:=by
  rcases getD_bad h with h|rfl
  · exact h
  · cases hq
theorem guard_cases {ops : Array Oper} {op : Op1} {r : List Op1} {K : S → Prop} (hs : SR G s a w) (hv : vcOps P (op :: r) K s) (f2 : ∀ t b, op.g = some (t, b) → t < G.nt ∧ ∀ y, ¬ G.T t y)
    (hg:(op.g=none∧o.guard=none) ∨ ∃ j b gt,o.guard=some (j,b)∧(ops.toList[j]?).bind (·.dst)=some gt∧gt<G.nt∧op.g=some (gt,b)) :
    (Region.wanted o (yielded ops a.tmps)=true ∧ ∃ s1,SR G s1 a w∧vcI P op.i op.d (vcOps P r K) s1)∨(Region.wanted o (yielded ops a.tmps)=false ∧ ∃ s1,SR G s1 a w∧skipK op.d (vcOps P r K) s1):=by
  obtain ⟨A,β,γ,g⟩:=hs
  obtain ⟨og,od,oi⟩:=op
  rcases hg with ⟨hg,hgu⟩|⟨j,b,gt,hgu,hj,hgl,hg⟩
  · simp only at hg
    subst hg
    exact .inl ⟨wanted_none hgu,s,⟨A,β,γ,g⟩,hv⟩
  · simp only at hg
    subst hg
    have hv':kGd (s.ρ gt) gt b (vcI P oi od (vcOps P r K)) (skipK od (vcOps P r K)) s:=hv
    unfold kGd at hv'
    split at hv'
    · next t ht =>
      have hsl:=g.slots gt
      rw [ht] at hsl
      have hval:=dr_bool hsl
      have hw:=wanted_some (ops:=ops) (b:=b) hgu (by simpa using hj) hval (by rw [g.size];exact hgl)
      have g' : ∀ t', t = t' → SR G (s.put (some gt) (.v (.bool t'))) a w := by
        intro t' e
        have:=g.put (d:=some gt) (v:=a.tmps.getD gt undef) hsl (fun u e=>by cases e;exact f2 gt b rfl)
        have e2:a.put (some gt) (a.tmps.getD gt undef)=a:=by
          simp only [Act.put]
          have:a.tmps.setIfInBounds gt (a.tmps.getD gt undef)=a.tmps:=by
            apply Array.ext_getElem?
            intro i
            rw [Array.getElem?_setIfInBounds]
            by_cases h:gt=i
            · subst h
              have:gt<a.tmps.size:=by rw [g.size];exact hgl
              simp [this]
            · simp [h]
          rw [this]
        rw [e2,e] at this
        exact ⟨A,β,γ,this⟩
      rw [hw]
      cases t with
      | true =>
        have h1:=hv'.1 rfl
        cases b with
        | true=>exact .inl ⟨rfl,_,g' true rfl,h1⟩
        | false=>exact .inr ⟨rfl,_,g' true rfl,h1⟩
      | false =>
        have h1:=hv'.2 rfl
        cases b with
        | true=>exact .inr ⟨rfl,_,g' false rfl,h1⟩
        | false=>exact .inl ⟨rfl,_,g' false rfl,h1⟩
    · next cs ht =>
      have hsl:=g.slots gt
      rw [ht] at hsl
      have hval:=dr_v hsl
      have hlt:gt<a.tmps.size:=by rw [g.size];exact hgl
      have:a.tmps[gt]?=some (.tuple cs):=by
        have h1:a.tmps[gt]=.tuple cs:=by simpa [hlt] using hval
        rw [Array.getElem?_eq_getElem hlt,h1]
      have hw:Region.wanted o (yielded ops a.tmps)=false:=by
        have hj':(ops[j]?).bind (·.dst)=some gt:=by simpa using hj
        simp [Region.wanted,hgu,yielded,hj',this]
      exact .inr ⟨hw,s,⟨A,β,γ,g⟩,hv'⟩
    · exact hv'.elim
theorem ops_sound {Q:Exit→Act→World→Prop} {ops:Array Oper}:∀ (l:List Oper) (l':List Op1),(l.mapM (cOp P G.nt ops.toList))=some l'→Free G (asgOps l')→∀ (K:S→Prop) (s:S) (a:Act) (w:World),vcOps P l' K s→SR G s a w →
    (∀ s' a' w',K s'→SR G s' a' w'→Q .normal a' w')→wpList P ops Q l a w
  | [],l',h,_,K,s,a,w,hv,hs,hQ=>by
    simp at h;subst h
    exact hQ _ _ _ hv hs
  | o :: l, l', h, hF, K, s, a, w, hv, hs, hQ => by
    simp only [List.mapM_cons,Option.bind_eq_bind,Option.pure_def,Option.bind_eq_some_iff] at h
    obtain ⟨op,h1,r,h2,h⟩:=h
    cases h
    obtain ⟨hi,hd,hlt,hg⟩:=cOp_spec h1
    obtain ⟨f1,f2,f3⟩:=hF.dst rfl
    have ih:∀ (K:S→Prop) (s:S) (a:Act) (w:World),vcOps P r K s→SR G s a w→(∀ s' a' w',K s'→SR G s' a' w'→Q .normal a' w')→wpList P ops Q l a w:=fun K=>ops_sound l r h2 f3 K
    unfold wpList
    rcases guard_cases (ops:=ops) hs hv f2 hg with ⟨hw,s1,⟨A,β,γ,g⟩,hv⟩|⟨hw,s1,⟨A,β,γ,g⟩,hv⟩
    · rw [if_pos hw]
      rw [hd] at hv
      rcases getD_bad hi with hi|hi
      · exact .inl (eff_wp (op_sound hi (fun t e=>f1 t (by rw [hd];exact e)) hv g _ (fun s' u w' hk hs _=>ih K s' _ w' hk hs hQ)))
      · rw [hi] at hv;exact hv.elim
    · rw [if_neg (by rw [hw];simp)]
      unfold skipK at hv
      rw [hd] at hv
      exact ih K _ _ _ hv ⟨A,β,γ,g.put (.cl _ _ (.v _)) (fun t e=>f1 t (by rw [hd];exact e))⟩ hQ
theorem quiet_sound {Q : Exit → Act → World → Prop} {ops : Array Oper} {C : World → Prop} {w0 : World} (hC : ∀ w', C w' → Below w0.heap.size w0 w') : ∀ (l : List Oper) (l' : List Op1), (l.mapM (cOp P G.nt ops.toList)) = some l' → l'.all (fun o => o.i.quiet) = true → Free G (asgOps l') →
    ∀ (K:S→Prop) (s:S) (a:Act),vcOps P l' K s→SR G s a w0 →
    (∀ s' a',K s'→SR G s' a' w0→∀ w',C w'→Q .normal a' w')→wpQuiet P ops C (fun a'=>∀ w',C w'→Q .normal a' w') l a
  | [],l',h,_,_,K,s,a,hv,hs,hQ=>by
    simp at h;subst h
    exact fun w' hw'=>hQ s a hv hs w' hw'
  | o :: l, l', h, hq, hF, K, s, a, hv, hs, hQ => by
    simp only [List.mapM_cons,Option.bind_eq_bind,Option.pure_def,Option.bind_eq_some_iff] at h
    obtain ⟨op,h1,r,h2,h⟩:=h
    cases h
    simp only [List.all_cons,Bool.and_eq_true] at hq
    obtain ⟨hi,hd,hlt,hg⟩:=cOp_spec h1
    obtain ⟨f1,f2,f3⟩:=hF.dst rfl
    have ih:=fun (K:S→Prop) (s:S) (a:Act)=>quiet_sound (Q:=Q) hC l r h2 hq.2 f3 K s a
    unfold wpQuiet
    rcases guard_cases (ops:=ops) hs hv f2 hg with ⟨hw,s1,⟨A,β,γ,g⟩,hv⟩|⟨hw,s1,⟨A,β,γ,g⟩,hv⟩
    · rw [if_pos hw]
      rw [vcI_pu hq.1] at hv
      obtain ⟨s',A',β',γ',d,v,hk,g',hdr,hy⟩:=pu_all (getD_quiet hi hq.1) hq.1 hv g
      refine ⟨v,fun w' hw' => ?_,ih K _ _ hk ?_ hQ⟩
      · unfold Oper.quietAt
        rw [hy w' (fun _=>Same.below (hC w' hw'))]
        exact ⟨rfl,rfl⟩
      · rw [hd];exact ⟨A',β',γ',g'.put hdr (fun t e=>f1 t (by rw [hd];exact e))⟩
    · rw [if_neg (by rw [hw];simp)]
      unfold skipK at hv
      rw [hd] at hv
      exact ih K _ _ hv ⟨A,β,γ,g.put (.cl _ _ (.v _)) (fun t e=>f1 t (by rw [hd];exact e))⟩ hQ
theorem still_sound {Q:Act→Prop} {ops:Array Oper} {w0:World}:∀ (l:List Oper) (l':List Op1),(l.mapM (cOp P G.nt ops.toList))=some l'→l'.all (fun o=>o.i.quiet)=true→Free G (asgOps l') →
    ∀ (K:S→Prop) (s:S) (a:Act),vcOps P l' K s→SR G s a w0 →
    (∀ s' a',K s'→SR G s' a' w0→Q a')→wpStill P ops w0 Q l a
  | [],l',h,_,_,K,s,a,hv,hs,hQ=>by
    simp at h;subst h
    exact hQ s a hv hs
  | o :: l, l', h, hq, hF, K, s, a, hv, hs, hQ => by
    simp only [List.mapM_cons,Option.bind_eq_bind,Option.pure_def,Option.bind_eq_some_iff] at h
    obtain ⟨op,h1,r,h2,h⟩:=h
    cases h
    simp only [List.all_cons,Bool.and_eq_true] at hq
    obtain ⟨hi,hd,hlt,hg⟩:=cOp_spec h1
    obtain ⟨f1,f2,f3⟩:=hF.dst rfl
    have ih:=fun (K:S→Prop) (s:S) (a:Act)=>still_sound (Q:=Q) (w0:=w0) (ops:=ops) l r h2 hq.2 f3 K s a
    unfold wpStill
    rcases guard_cases (ops:=ops) hs hv f2 hg with ⟨hw,s1,⟨A,β,γ,g⟩,hv⟩|⟨hw,s1,⟨A,β,γ,g⟩,hv⟩
    · rw [if_pos hw]
      rw [vcI_pu hq.1] at hv
      obtain ⟨s',A',β',γ',d,v,hk,g',hdr,hy⟩:=pu_all (getD_quiet hi hq.1) hq.1 hv g
      unfold Oper.still
      rw [hy w0 (fun _=>Same.refl _),Oper.stillUpon_value]
      refine ih K _ _ hk ?_ hQ
      rw [hd];exact ⟨A',β',γ',g'.put hdr (fun t e=>f1 t (by rw [hd];exact e))⟩
    · rw [if_neg (by rw [hw];simp)]
      unfold skipK at hv
      rw [hd] at hv
      exact ih K _ _ hv ⟨A,β,γ,g.put (.cl _ _ (.v _)) (fun t e=>f1 t (by rw [hd];exact e))⟩ hQ
theorem vcOps_append (l1 l2:List Op1) (K:S→Prop):∀ s,vcOps P (l1++l2) K s=vcOps P l1 (vcOps P l2 K) s:=by
  have e:∀ l1:List Op1,vcOps P (l1++l2) K=vcOps P l1 (vcOps P l2 K):=by
    intro l1
    induction l1 with
    | nil=>rfl
    | cons op l ih =>
      obtain ⟨g,d,i⟩:=op
      funext s
      cases g with
      | none=>simp only [List.cons_append,vcOps,ih]
      | some gb=>obtain ⟨g,b⟩:=gb;simp only [List.cons_append,vcOps,ih]
  intro s;rw [e l1]
theorem mapM_take {α γ:Type} {f:α→Option γ}:∀ (l:List α) (l':List γ) (n:Nat),l.mapM f=some l'→(l.take n).mapM f=some (l'.take n)∧(l.drop n).mapM f=some (l'.drop n)
  | l,l',0,h=>by simp [h]
  | [],l',n+1,h=>by simp at h;subst h;simp
  | x::l,l',n+1,h=>by
    simp only [List.mapM_cons,Option.bind_eq_bind,Option.pure_def,Option.bind_eq_some_iff] at h
    obtain ⟨y,h1,r,h2,h⟩:=h
    cases h
    obtain ⟨i1,i2⟩:=mapM_take l r n h2
    exact ⟨by simp [h1,i1],by simpa using i2⟩
theorem asgOps_sub {l l':List Op1} (h:∀ x,x ∈ l'→x ∈ l):∀ t,t ∈ asgOps l'→t ∈ asgOps l:=by
  intro t ht
  simp only [asgOps,List.mem_append,List.mem_filterMap] at ht ⊢
  rcases ht with ⟨x,h1,h2⟩|⟨x,h1,h2⟩
  · exact .inl ⟨x,h x h1,h2⟩
  · exact .inr ⟨x,h x h1,h2⟩
structure PV (l l':List Op1):Prop where
  len:l'.length=l.length
  get:∀ (i:Nat) (op:Op1),l[i]?=some op → ∃ op':Op1,l'[i]?=some op'∧op'.g=op.g∧op'.d=op.d∧((True∧op'.i=op.i)∨(True∧op'.i=op.i.toP))
theorem PV.refl (l:List Op1):PV l l:=⟨rfl,fun i op h=>⟨op,h,rfl,rfl,.inl ⟨trivial,rfl⟩⟩⟩
theorem PV.mix {l:List Op1} (μ:Op1→Bool):PV l (l.map fun o=>if μ o then o else o.toP):=⟨by simp,fun i op h=>by
  refine ⟨if μ op then op else op.toP,by simp [h],?_,?_,?_⟩
  · split<;>rfl
  · split<;>rfl
  · split
    · exact .inl ⟨trivial,rfl⟩
    · exact .inr ⟨trivial,rfl⟩⟩
theorem PV.toP (l:List Op1):PV l (l.map Op1.toP):=⟨by simp,fun i op h=>⟨op.toP,by simp [h],rfl,rfl,.inr ⟨trivial,rfl⟩⟩⟩
theorem PV.tp (tp:Bool) (l:List Op1):PV l (if tp then l.map Op1.toP else l):=by cases tp with
  | false=>exact .refl l
  | true=>exact .toP l
theorem eager_sound {Q : Exit → Act → World → Prop} {ops : Array Oper} {l l' : List Op1} (hp : PV l l') (hl : ops.toList.mapM (cOp P G.nt ops.toList) = some l) (hF : Free G (asgOps l)) {K : S → Prop} (hQ : ∀ s' a' w', K s' → SR G s' a' w' → Q .normal a' w') : ∀ (E : List Nat) (s : S) (a : Act) (w : World),
    (∀ i,i ∈ E→i<ops.size)→vcOps P (E.map fun i=>l'.getD i ⟨none,none,.bad⟩) K s→SR G s a w→EW P ops (puF l') (ldF ops) (grF l') Q E a w
  | [],s,a,w,_,hv,hs=>hQ s a w hv hs
  | i :: E, s, a, w, hE, hv, hs => by
    have hi:i<ops.size:=hE i (by simp)
    have hlen:l.length=ops.size:=by
      have:∀ (x:List Oper) (y:List Op1),x.mapM (cOp P G.nt ops.toList)=some y→y.length=x.length:=by
        intro x
        induction x with
        | nil=>intro y h;simp at h;subst h;rfl
        | cons o x ih =>
          intro y h
          simp only [List.mapM_cons,Option.bind_eq_bind,Option.pure_def,Option.bind_eq_some_iff] at h
          obtain ⟨op,_,r,h2,h⟩:=h
          cases h;simp [ih r h2]
      rw [this _ _ hl];simp
    have hget:∀ (x:List Oper) (y:List Op1) (i:Nat) (o:Oper),x.mapM (cOp P G.nt ops.toList)=some y→x[i]?=some o → ∃ op,y[i]?=some op∧cOp P G.nt ops.toList o=some op:=by
      intro x
      induction x with
      | nil=>intro y i o h ho;simp at ho
      | cons o x ih =>
        intro y i o' h ho
        simp only [List.mapM_cons,Option.bind_eq_bind,Option.pure_def,Option.bind_eq_some_iff] at h
        obtain ⟨op,h1,r,h2,h⟩:=h
        cases h
        cases i with
        | zero=>simp at ho;subst ho;exact ⟨op,by simp,h1⟩
        | succ i=>simpa using ih r i o' h2 (by simpa using ho)
    have hoi:ops[i]?=some ops[i]:=Array.getElem?_eq_getElem hi
    obtain ⟨op,hop,hcop⟩:=hget ops.toList l i ops[i] hl (by simpa using hoi)
    obtain ⟨hci,hd,hlt,hg⟩:=cOp_spec hcop
    have hmem:op ∈ l:=List.mem_of_getElem? hop
    have f1:∀ t,op.d=some t→t<G.nt∧∀ y,¬ G.T t y:=fun t e=>hF t (by simp only [asgOps,List.mem_append,List.mem_filterMap];exact .inl ⟨op,hmem,e⟩)
    have f2:∀ t b,op.g=some (t,b)→t<G.nt∧∀ y,¬ G.T t y:=fun t b e=>hF t (by simp only [asgOps,List.mem_append,List.mem_filterMap];exact .inr ⟨op,hmem,by rw [e];rfl⟩)
    -- the operation as it is met
    obtain ⟨op',hop',e1,e2,e3⟩:=hp.get i op hop
    have ih:=eager_sound hp hl hF hQ E
    have hE':∀ i,i ∈ E→i<ops.size:=fun i h=>hE i (by simp [h])
    have hgd:l'.getD i ⟨none,none,.bad⟩=op':=by rw [List.getD_eq_getElem?_getD,hop'];rfl
    rw [List.map_cons,hgd] at hv
    show eOp P ops _ _ _ i (EW P ops _ _ _ Q E) a w
    unfold eOp
    rw [hoi]
    simp only
    have hpu:puF l' i=op'.i.quiet:=by unfold puF;rw [hop'];rfl
    have hgr:grF l' i=op'.i.gr:=by unfold grF;rw [hop'];rfl
    have hqq:op'.i.quiet=op.i.quiet:=by
      rcases e3 with ⟨_,e⟩|⟨_,e⟩
      · rw [e]
      · rw [e];cases op.i<;>rfl
    rcases guard_cases (ops:=ops) (o:=ops[i]) hs hv (by rw [e1];exact f2) (by rw [e1];exact hg) with ⟨hw,s1,⟨A,β,γ,g⟩,hv⟩|⟨hw,s1,⟨A,β,γ,g⟩,hv⟩
    · rw [if_pos hw, hpu]
      cases hq:op'.i.quiet with
      | true =>
        simp only [if_true]
        rw [hqq] at hq
        have hii:op'.i=op.i:=by
          rcases e3 with ⟨_,e⟩|⟨_,e⟩
          · exact e
          · rw [e];cases hx:op.i<;>first|rfl|(rw [hx] at hq;cases hq)
        rw [hii,vcI_pu hq] at hv
        obtain ⟨s',A',β',γ',d,v,hk,g',hdr,hy⟩:=pu_all (getD_quiet hci hq) hq hv g
        refine ⟨v,?_,?_⟩
        · have hld:ldF ops i=isLoad ops[i]:=by unfold ldF;rw [hoi];rfl
          rw [hld];exact hy
        · refine ih _ _ _ hE' hk ?_
          rw [e2,hd];exact ⟨A',β',γ',g'.put hdr (fun t e=>f1 t (by rw [hd];exact e))⟩
      | false =>
        simp only [Bool.false_eq_true,if_false,hgr]
        rw [e2,hd] at hv
        have hdd:∀ t,(ops[i]).dst=some t→t<G.nt∧∀ y,¬ G.T t y:=fun t e=>f1 t (by rw [hd];exact e)
        rcases e3 with ⟨_,e⟩|⟨_,e⟩
        · rw [e] at hv ⊢
          rcases getD_bad hci with hci|hci
          · exact op_sound hci hdd hv g _ (fun s' u w' hk hs hsm=>⟨ih _ _ _ hE' hk hs,hsm⟩)
          · rw [hci] at hv;exact hv.elim
        · rw [e] at hv ⊢
          rcases getD_bad hci with hci|hci
          · exact opP_sound hci hdd hv g _ (fun s' u w' hk hs hsm=>⟨ih _ _ _ hE' hk hs,hsm⟩)
          · rw [hci] at hv;exact hv.elim
    · rw [if_neg (by rw [hw];simp)]
      unfold skipK at hv
      rw [e2,hd] at hv
      exact ih _ _ _ hE' hv ⟨A,β,γ,g.put (.cl _ _ (.v _)) (fun t e=>f1 t (by rw [hd];exact e))⟩
theorem len_cOp {ops:List Oper} {nt:Nat}:∀ (x:List Oper) (y:List Op1),x.mapM (cOp P nt ops)=some y→y.length=x.length
  | [],y,h=>by simp at h;subst h;rfl
  | o::x,y,h=>by
    simp only [List.mapM_cons,Option.bind_eq_bind,Option.pure_def,Option.bind_eq_some_iff] at h
    obtain ⟨op,_,r,h2,h⟩:=h
    cases h;simp [len_cOp x r h2]
theorem get_cOp {ops:List Oper} {nt:Nat}:∀ (x:List Oper) (y:List Op1) (i:Nat) (o:Oper),x.mapM (cOp P nt ops)=some y→x[i]?=some o → ∃ op,y[i]?=some op∧cOp P nt ops o=some op
  | [],y,i,o,h,ho=>by simp at ho
  | o::x,y,i,o',h,ho=>by
    simp only [List.mapM_cons,Option.bind_eq_bind,Option.pure_def,Option.bind_eq_some_iff] at h
    obtain ⟨op,h1,r,h2,h⟩:=h
    cases h
    cases i with
    | zero=>simp at ho;subst ho;exact ⟨op,by simp,h1⟩
    | succ i=>simpa using get_cOp x r i o' h2 (by simpa using ho)
theorem step_sound {ops : Array Oper} {l l' : List Op1} (hp : PV l l') (hl : ops.toList.mapM (cOp P G.nt ops.toList) = some l) (hF : Free G (asgOps l)) {pu gr : Nat → Bool} (hpu : ∀ i, pu i = true → puF l' i = true)
    (hgr:∀ i,gr i=true→puF l' i=true∨grF l' i=true) {i:Nat} {K:S→Prop} {N:Act→World→Prop} (hN:∀ s' a' w',K s'→SR G s' a' w'→N a' w') {s:S} {a:Act} {w:World}
    (hv:vcOps P [l'.getD i ⟨none,none,.bad⟩] K s) (hs:SR G s a w):eOp P ops pu (ldF ops) gr i N a w:=by
  have hlen:l.length=ops.size:=by rw [len_cOp _ _ hl];simp
  by_cases hi:i<ops.size
  · have hoi:ops[i]?=some ops[i]:=Array.getElem?_eq_getElem hi
    obtain ⟨op,hop,hcop⟩:=get_cOp ops.toList l i ops[i] hl (by simpa using hoi)
    obtain ⟨hci,hd,hlt,hg⟩:=cOp_spec hcop
    have hmem:op ∈ l:=List.mem_of_getElem? hop
    have f1:∀ t,op.d=some t→t<G.nt∧∀ y,¬ G.T t y:=fun t e=>hF t (by simp only [asgOps,List.mem_append,List.mem_filterMap];exact .inl ⟨op,hmem,e⟩)
    have f2:∀ t b,op.g=some (t,b)→t<G.nt∧∀ y,¬ G.T t y:=fun t b e=>hF t (by simp only [asgOps,List.mem_append,List.mem_filterMap];exact .inr ⟨op,hmem,by rw [e];rfl⟩)
    obtain ⟨op',hop',e1,e2,e3⟩:=hp.get i op hop
    have hgd:l'.getD i ⟨none,none,.bad⟩=op':=by rw [List.getD_eq_getElem?_getD,hop'];rfl
    rw [hgd] at hv
    have hpu1:puF l' i=op'.i.quiet:=by unfold puF;rw [hop'];rfl
    have hgr1:grF l' i=op'.i.gr:=by unfold grF;rw [hop'];rfl
    have hqq:op'.i.quiet=op.i.quiet:=by
      rcases e3 with ⟨_,e⟩|⟨_,e⟩
      · rw [e]
      · rw [e];cases op.i<;>rfl
    unfold eOp
    rw [hoi]
    simp only
    rcases guard_cases (ops:=ops) (o:=ops[i]) hs hv (by rw [e1];exact f2) (by rw [e1];exact hg) with ⟨hw,s1,⟨A,β,γ,g⟩,hv⟩|⟨hw,s1,⟨A,β,γ,g⟩,hv⟩
    · rw [if_pos hw]
      cases hq:op'.i.quiet with
      | true =>
        rw [hqq] at hq
        have hii:op'.i=op.i:=by
          rcases e3 with ⟨_,e⟩|⟨_,e⟩
          · exact e
          · rw [e];cases hx:op.i<;>first|rfl|(rw [hx] at hq;cases hq)
        rw [hii,vcI_pu hq] at hv
        obtain ⟨s',A',β',γ',d,v,hk,g',hdr,hy⟩:=pu_all (getD_quiet hci hq) hq hv g
        have hnext:N (a.put (ops[i]).dst v) w:=hN _ _ _ hk (by rw [e2,hd];exact ⟨A',β',γ',g'.put hdr (fun t e=>f1 t (by rw [hd];exact e))⟩)
        split
        · refine ⟨v,?_,hnext⟩
          have hld:ldF ops i=isLoad ops[i]:=by unfold ldF;rw [hoi];rfl
          rw [hld];exact hy
        · unfold Eff
          rw [hy w (fun _=>Same.refl w)]
          exact ⟨hnext,fun _=>Same.refl w⟩
      | false =>
        have hnp:pu i=false:=by
          cases hp:pu i with
          | false=>rfl
          | true=>have:=hpu i hp;rw [hpu1,hq] at this;cases this
        rw [hnp]
        simp only [Bool.false_eq_true,if_false]
        have hgg:gr i=true→op'.i.gr=true:=fun h=>by
          rcases hgr i h with h|h
          · rw [hpu1,hq] at h;cases h
          · rw [hgr1] at h;exact h
        rw [e2,hd] at hv
        have hdd:∀ t,(ops[i]).dst=some t→t<G.nt∧∀ y,¬ G.T t y:=fun t e=>f1 t (by rw [hd];exact e)
        rcases e3 with ⟨_,e⟩|⟨_,e⟩
        · rw [e] at hv hgg
          rcases getD_bad hci with hci|hci
          · exact op_sound hci hdd hv g _ (fun s' u w' hk hs hsm=>⟨hN _ _ _ hk hs,fun h=>hsm (hgg h)⟩)
          · rw [hci] at hv;exact hv.elim
        · rw [e] at hv hgg
          rcases getD_bad hci with hci|hci
          · exact opP_sound hci hdd hv g _ (fun s' u w' hk hs hsm=>⟨hN _ _ _ hk hs,fun h=>hsm (hgg h)⟩)
          · rw [hci] at hv;exact hv.elim
    · rw [if_neg (by rw [hw];simp)]
      unfold skipK at hv
      rw [e2,hd] at hv
      exact hN _ _ _ hv ⟨A,β,γ,g.put (.cl _ _ (.v _)) (fun t e=>f1 t (by rw [hd];exact e))⟩
  · exfalso
    have:l'.getD i ⟨none,none,.bad⟩=⟨none,none,.bad⟩:=by
      rw [List.getD_eq_getElem?_getD,List.getElem?_eq_none (by rw [hp.len];omega)];rfl
    rw [this] at hv
    exact hv
theorem tree_sound {Q:Exit→Act→World→Prop} {ops:Array Oper} {l l':List Op1} (hp:PV l l') (hl:ops.toList.mapM (cOp P G.nt ops.toList)=some l) (hF:Free G (asgOps l)) {pu gr:Nat→Bool} (hpu:∀ i,pu i=true→puF l' i=true)
    (hgr:∀ i,gr i=true→puF l' i=true∨grF l' i=true) {K:S→Prop} (hQ:∀ s' a' w',K s'→SR G s' a' w'→Q .normal a' w'):∀ (t:IT) (s:S) (a:Act) (w:World),
    vcT P (toDT l' t) K s→SR G s a w→ET P ops pu (ldF ops) gr (Q .normal) t a w
  | .done,s,a,w,hv,hs=>hQ s a w hv hs
  | .op i t,s,a,w,hv,hs=>step_sound hp hl hF hpu hgr (fun s' a' w' hk hs'=>tree_sound hp hl hF hpu hgr hQ t s' a' w' hk hs') hv hs
  | .alt t u,s,a,w,hv,hs=>⟨tree_sound hp hl hF hpu hgr hQ t s a w hv.1 hs,tree_sound hp hl hF hpu hgr hQ u s a w hv.2 hs⟩
theorem region_tree {Q:Exit→Act→World→Prop} {ops:Array Oper} {l l':List Op1} {c:Nat} (hp:PV l l') (hmix:P.follows .mixedOrders=true) (hl:ops.toList.mapM (cOp P G.nt ops.toList)=some l) (hF:Free G (asgOps l)) {K:S→Prop} {s:S} {a:Act} {w:World}
    (hv:vcT P (treeC c ops l') K s) (hs:SR G s a w) (hQ:∀ s' a' w',K s'→SR G s' a' w'→Q .normal a' w'):RegA P ops true Q a w:=by
  have hb1:Below w.heap.size w { w with drawn:=w.drawn+1 }:=⟨rfl,rfl,rfl,Nat.le_refl _,fun _ _=>rfl⟩
  have hs1:SR G s a { w with drawn:=w.drawn+1 }:=let ⟨A,β,γ,g⟩:=hs;⟨A,β,γ,g.world hb1⟩
  unfold treeC at hv
  simp only at hv
  split at hv
  · next hB =>
    rw [Bool.and_eq_true] at hB
    refine reg_tree hmix hB.2 (tree_sound hp hl hF (fun i h => ?_) (fun i h => ?_) hQ _ s a _ hv hs1)
    · rw [Bool.and_eq_true] at h;exact h.1
    · unfold grF2 at h;rw [Bool.or_eq_true] at h;exact h
  · exact hv.elim
def trB (P:Program) (tp:Bool) (ops:Array Oper) (l:List Op1):DT:=if tp then treeT ops (l.map Op1.toP) else tr1 P ops l
theorem region_trB {Q:Exit→Act→World→Prop} {ops:Array Oper} {l:List Op1} (tp:Bool) (hmix:P.follows .mixedOrders=true) (hl:ops.toList.mapM (cOp P G.nt ops.toList)=some l) (hF:Free G (asgOps l)) {K:S→Prop} {s:S} {a:Act} {w:World}
    (hv:vcT P (trB P tp ops l) K s) (hs:SR G s a w) (hQ:∀ s' a' w',K s'→SR G s' a' w'→Q .normal a' w'):RegA P ops true Q a w:=by
  cases tp with
  | true=>exact region_tree (.toP l) hmix hl hF (show vcT P (treeC 13 ops (l.map Op1.toP)) K s from hv) hs hQ
  | false =>
    have h:vcT P (tr1 P ops l) K s:=hv
    unfold tr1 at h
    split at h
    · exact region_tree (.mix _) hmix hl hF h hs hQ
    · exact region_tree (.refl l) hmix hl hF (show vcT P (treeC 13 ops l) K s from h) hs hQ
theorem reg_still_tail {Q:Exit→Act→World→Prop} {l:List Oper} (n:Nat) (hB:Region.lexTailB .any l.toArray n=true)
    (h:wpStill P l.toArray { w with drawn:=w.drawn+1 } (fun a'=>wpList P l.toArray Q (l.drop n) a' { w with drawn:=w.drawn+1 }) (l.take n) a):RegA P l.toArray true Q a w:=by
  simp only [Region.lexTailB,Bool.and_eq_true,decide_eq_true_eq] at hB
  have hlt:n<l.length:=by have:=hB.1.1.1.2;simpa using this
  have e1:(l.take n).length=n:=by rw [List.length_take];omega
  have e2:(l.drop n).length=l.toArray.size - n:=by rw [List.length_drop];rfl
  have inv0:HeadInv .any l.toArray n (Array.replicate l.toArray.size false) :=
    ⟨by simp,fun j oj _ hl=>(by rw [getD_replicate_false] at hl;cases hl),fun t _ ht=>getD_in (by simpa using ht) (getD_replicate_false _ _)⟩
  have hw:=wpAnyL_lex (md:=.any) (g:=l.toArray.size - n) hB.1.1.1.1 hB.1.1.2 hB.1.2 hB.1.1.1.2 (l.take n) 0 _ a (fun j hj=>by
    have hj':j<n:=by rw [e1] at hj;exact hj
    simp [hj']) (by simpa using e1) inv0 (by rw [e1];exact hB.2) h
  have hall:=wpAny_of_head (Q':=Q) (g:=l.toArray.size - n) (fun listed a' hL=>by
    have:=wpAny_of_seq (md:=.any) (Q':=Q) (l.drop n) n listed a' { w with drawn:=w.drawn+1 } (fun j=>by simp [List.getElem?_drop]) (by rw [e2];exact hL.1) hL.2
    rwa [e2] at this) _ _ _ hw
  rw [e1,show n+(l.toArray.size - n)=l.toArray.size by have:l.toArray.size=l.length:=rfl;omega] at hall
  exact RegA.draw hall
theorem region_sound {Q : Exit → Act → World → Prop} {ops : Array Oper} {id : Nat} {draw : Bool} {m : MC} (hmix : P.follows .mixedOrders = true) (hc : cC P G.nt (.region id ops draw) = some m) (hF : Free G (asg m)) {K : S → Prop} {s : S} {a : Act} {w : World}
    (hv : ∃ q l,m=.reg q l∧vcOps P l K s) (hs:SR G s a w) (hQ:∀ s' a' w',K s'→SR G s' a' w'→Q .normal a' w'):RegA P ops draw Q a w:=by
  obtain ⟨q,l,rfl,hv⟩:=hv
  simp only [cC,Option.bind_eq_bind,Option.bind_eq_some_iff] at hc
  obtain ⟨l0,h1,hc⟩:=hc
  have hF':Free G (asgOps l):=hF
  cases draw with
  | false =>
    simp only [Bool.false_eq_true,if_false,Option.pure_def,Option.some.injEq,MC.reg.injEq] at hc
    obtain ⟨rfl,rfl⟩:=hc
    exact RegA.list (ops_sound ops.toList l0 h1 hF' K s a w hv hs hQ)
  | true =>
    have hb1:Below w.heap.size w { w with drawn:=w.drawn+1 }:=⟨rfl,rfl,rfl,Nat.le_refl _,fun _ _=>rfl⟩
    have hs1:SR G s a { w with drawn:=w.drawn+1 }:=let ⟨A,β,γ,g⟩:=hs;⟨A,β,γ,g.world hb1⟩
    have hlen0:l0.length=ops.size:=by
      have:∀ (x:List Oper) (y:List Op1),x.mapM (cOp P G.nt ops.toList)=some y→y.length=x.length:=by
        intro x
        induction x with
        | nil=>intro y h;simp at h;subst h;rfl
        | cons o x ih =>
          intro y h
          simp only [List.mapM_cons,Option.bind_eq_bind,Option.pure_def,Option.bind_eq_some_iff] at h
          obtain ⟨op,_,r,h2,h⟩:=h
          cases h;simp [ih r h2]
      rw [this _ _ h1];simp
    have hear : ∀ (l1 : List Op1) (hp : PV l0 l1) (l' : List Op1), eager ops l1 = some l' → Free G (asgOps l') → vcOps P l' K s → RegA P ops true Q a w := by
      intro l1 hp l' he hfr hv
      unfold eager at he
      split at he
      · next hB =>
        simp only [Bool.and_eq_true,decide_eq_true_eq] at hB
        cases he
        have hB':=hB.1
        simp only [eagerB,Bool.and_eq_true] at hB'
        obtain ⟨⟨⟨⟨⟨hsel0,hE⟩,hall⟩,hpair⟩,hT0⟩,hon⟩:=hB'
        have hf0:Free G (asgOps l0):=by
          intro t ht
          apply hfr
          simp only [asgOps,List.mem_append,List.mem_filterMap] at ht ⊢
          have mem:∀ op,op ∈ l0 → ∃ op',op' ∈ (eagE l1 (tabT ops)).map (fun i=>l1.getD i ⟨none,none,.bad⟩)∧op'.d=op.d∧op'.g=op.g:=by
            intro op hop
            obtain ⟨i,hi⟩:=List.getElem?_of_mem hop
            have hi2:i<ops.size:=by
              have:=(List.getElem?_eq_some_iff.1 hi).1
              omega
            have hmem:=List.all_eq_true.1 hall i (List.mem_range.2 hi2)
            refine ⟨_,List.mem_map.2 ⟨i,by simpa using hmem,rfl⟩,?_⟩
            obtain ⟨op',h1,h2,h3,_⟩:=hp.get i op hi
            simp only [List.getD_eq_getElem?_getD,h1,Option.getD_some]
            exact ⟨h3,h2⟩
          rcases ht with ⟨op,h1,h2⟩|⟨op,h1,h2⟩
          · obtain ⟨op',m1,m2,m3⟩:=mem op h1
            exact .inl ⟨op',m1,by rw [m2];exact h2⟩
          · obtain ⟨op',m1,m2,m3⟩:=mem op h1
            exact .inr ⟨op',m1,by rw [m3];exact h2⟩
        exact reg_eager hmix hB.1 (eager_sound hp h1 hf0 hQ _ s a _ (fun i hi=>by simpa using List.all_eq_true.1 hE i hi) hv hs1) hB.2
      · cases he
    simp only [if_true] at hc
    cases hmode:mode ops l0 with
    | none =>
      rw [hmode] at hc
      simp only at hc
      cases he1:eager ops l0 with
      | some l' =>
        rw [he1] at hc
        simp only [Option.pure_def,Option.some.injEq,MC.reg.injEq] at hc
        obtain ⟨_,rfl⟩:=hc
        exact hear _ (.refl _) l' he1 hF' hv
      | none =>
        rw [he1] at hc
        simp only at hc
        cases he3:mixed P ops l0 with
        | some l' =>
          rw [he3] at hc
          simp only [Option.pure_def,Option.some.injEq,MC.reg.injEq] at hc
          obtain ⟨_,rfl⟩:=hc
          unfold mixed at he3
          split at he3
          · exact hear _ (.mix _) l' he3 hF' hv
          · cases he3
        | none =>
          rw [he3] at hc
          simp only at hc
          cases he2:late P ops l0 with
          | some l' =>
            rw [he2] at hc
            simp only [Option.pure_def,Option.some.injEq,MC.reg.injEq] at hc
            obtain ⟨_,rfl⟩:=hc
            unfold late at he2
            split at he2
            · cases he2
            · exact hear _ (.toP _) l' he2 hF' hv
          | none =>
            rw [he2] at hc
            simp only [Option.pure_def,Option.some.injEq] at hc
            cases hc
    | some q' =>
    rw [hmode] at hc
    simp only [Option.pure_def,Option.some.injEq,MC.reg.injEq] at hc
    obtain ⟨rfl,rfl⟩:=hc
    unfold mode at hmode
    split at hmode
    · next hq =>
      simp only [Bool.and_eq_true] at hq
      have hB2:=hq.2
      simp only [Region.lexB,Bool.and_eq_true] at hB2
      refine RegA.draw (wpAny_of_quiet (C:=fun w'=>Below w.heap.size w w') (Q:=fun a'=>∀ w',Below w.heap.size w w'→Q .normal a' w') (fun _ w' hw' h=>h w' hw') _ _ _ _ hb1 ?_)
      have hqs:wpQuiet P ops (fun w'=>Below w.heap.size w w') (fun a'=>∀ w',Below w.heap.size w w'→Q .normal a' w') ops.toList a := ?_
      · have:=wpAnyQ_lex (C:=fun w'=>Below w.heap.size w w') (md:=.any) hB2.1 ops.toList 0 (Array.replicate ops.size false) a (by simp) (by simpa using hB2.2) hqs
        simpa using this
      exact quiet_sound (C:=fun w'=>Below w.heap.size w w') (fun w' h=>h) ops.toList l0 h1 hq.1 hF' K s a hv hs (fun s' a' hk ⟨A,β,γ,g'⟩ w' hw'=>hQ s' a' w' hk ⟨A,β,γ,g'.world hw'⟩)
    · obtain ⟨n,hn1,hn2⟩:=List.exists_of_findSome?_eq_some hmode
      split at hn2
      · next hB =>
        have hn:n≤(l0.takeWhile fun o=>o.i.quiet).length:=by
          have:=List.mem_reverse.1 hn1
          have:=List.mem_range.1 this
          omega
        have hall:(l0.take n).all (fun o=>o.i.quiet)=true:=by
          rw [List.all_eq_true]
          intro x hx
          have h2:l0.take n=(l0.takeWhile fun o=>o.i.quiet).take n:=by
            have h3:l0=(l0.takeWhile fun o=>o.i.quiet)++l0.dropWhile (fun o=>o.i.quiet):=(List.takeWhile_append_dropWhile).symm
            conv=>lhs;rw [h3]
            rw [List.take_append_of_le_length hn]
          rw [h2] at hx
          have h4:=List.mem_of_mem_take hx
          have:=List.all_takeWhile (p:=fun o:Op1=>o.i.quiet) (l:=l0)
          rw [List.all_eq_true] at this
          exact this x h4
        obtain ⟨t1,t2⟩:=mapM_take ops.toList l0 n h1
        have hsplit:vcOps P (l0.take n) (vcOps P (l0.drop n) K) s:=by
          rw [← vcOps_append,List.take_append_drop];exact hv
        have hg1:SR G s a { w with drawn:=w.drawn+1 }:=let ⟨A,β,γ,g⟩:=hs;⟨A,β,γ,g.world hb1⟩
        have e:ops=ops.toList.toArray:=by simp
        have key:=reg_still_tail (P:=P) (Q:=Q) (a:=a) (w:=w) (l:=ops.toList) n (by simpa using hB)
          (still_sound (Q:=fun a'=>wpList P ops.toList.toArray Q (ops.toList.drop n) a' { w with drawn:=w.drawn+1 }) (ops:=ops.toList.toArray) (ops.toList.take n) (l0.take n) (by simpa using t1) hall (fun t ht=>hF' t (asgOps_sub (fun x h=>List.mem_of_mem_take h) t ht)) _ s a hsplit hg1
            (fun s' a' hk g'=>ops_sound (ops:=ops.toList.toArray) (ops.toList.drop n) (l0.drop n) (by simpa using t2) (fun t ht=>hF' t (asgOps_sub (fun x h=>List.mem_of_mem_drop h) t ht)) K s' a' _ hk g' hQ))
        rw [← e] at key
        exact key
      · cases hn2
end
end Go.Dm
