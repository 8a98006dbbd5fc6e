/-
 Texts of this claim, one behind another.
-/
import Derived.Test.YtcclchnbjpncdaaMg13
import Derived.Test.YtcclchnbjpncdaaMg11
import Derived.Test.YtcclchnbjpncdaaMg17
import Derived.Test.YtcclchnbjpncdaaTrT
set_option linter.unusedSimpArgs false
set_option linter.unnecessarySimpa false
set_option linter.unusedVariables false
set_option linter.defProp false
namespace Go.Proofs.Ytcclchnbjpncdaa
open Go.Dm
def tbb (n:Nat) (f:Nat→Bool):List Bool:=(List.range n).map f
theorem tbb_rep {n:Nat}:List.replicate n false=tbb n fun _=>false:=by apply List.ext_getElem<;>simp [tbb]
theorem tbb_len {n:Nat} {f:Nat→Bool}:(tbb n f).length=n:=by simp [tbb]
theorem tbb_get {n i:Nat} {f:Nat→Bool} {d:Bool} (h:i<n):(tbb n f).getD i d=f i:=by simp [tbb,List.getD,h]
theorem tbb_set {n i:Nat} {f:Nat→Bool} {x:Bool}:(tbb n f).set i x=tbb n fun j=>if j=i then x else f j:=by
  apply List.ext_getElem
  · simp [tbb]
  · intro j h1 h2
    simp only [tbb,List.getElem_set,List.getElem_map,List.getElem_range]
    by_cases e:i=j
    · rw [if_pos e,if_pos e.symm]
    · rw [if_neg e,if_neg (fun h=>e h.symm)]
theorem tbb_ext {n:Nat} {f g:Nat→Bool} (h:∀ j,j<n→f j=g j):tbb n f=tbb n g:=by
  unfold tbb
  exact List.map_congr_left fun j hj=>h j (List.mem_range.1 hj)
theorem tbb_bls {n:Nat} {f:Nat→Bool}:(bls (tbb n f)).length=n:=by simp [bls,tbb]
def cuV (T:Nat→Nat→Nat→Bool) (N n:Nat):D:=.sl 1 (tabD N fun a=>.sl 1 (tabD n fun i=>.sl 1 (bls (tbb n fun j=>T a i j))))
theorem cuV_eq {T:Nat→Nat→Nat→Bool} {N n:Nat}:cuV T N n=.sl 1 (tabD N fun a=>.sl 1 (tabD n fun i=>.sl 1 (bls (tbb n fun j=>T a i j)))):=(rfl)
def vcu:=And.intro vmr<|And.intro @tbb_len<|And.intro @tbb_get<|And.intro @tbb_set<|And.intro @tbb_bls<|And.intro @cuV_eq<|And.intro @rulD_eq @Int.add_sub_cancel
structure CV (g:Grammar) (w:List Int):Prop where
  v:Valid g
  w:w.length≤12
theorem ovB_no {g:Grammar} {w:List Int} {t:Nat→Nat→Nat→Bool} {x:Int} {l:List Int} {i j:Nat} (h:∀ m,i≤m→m≤j→¬ (oneB g w t x i m=true∧ovB g w t l m j=true)):ovB g w t (x::l) i j=false:=by
  rw [Bool.eq_false_iff];intro ho
  obtain ⟨m,h1,h2,h3,h4⟩:=ovB_cons.mp ho
  exact h m h1 h2 ⟨h3,h4⟩
set_option maxRecDepth 10000 in
set_option maxHeartbeats 4000000 in
theorem over_spec (g : Grammar) (w : List Int) (hc : CV g w) (N : Nat) (hN : g.n = N) (T : Nat → Nat → Nat → Bool) (l : List Int) (hl : l.length ≤ 4) (hx : ∀ y, y ∈ l → 0 ≤ y ∧ y < g.k + g.n) (i j : Nat) (hij : i ≤ j) (hj : j ≤ w.length) : Dm.Spec Try.prog 38 [.ag (graD g), .sl 1 (i64s w), cuV T N (w.length + 1), .sl 1 (i64s l), iv .i64 i, iv .i64 j] (· = .v (.bool (ovB g w T l i j))) := by
  refine spec_of_vc mixed Try.func38 c38 (by rw [show Try.f38.ntmps=_ from Try.ntmps38];simp) ?_
  unfold m38 r38
  have hk:=hc.v.k
  have hn:=hc.v.n
  have hw:=hc.w
  cases hlc:l with
  | nil =>
    have e:ovB g w T [] i j=decide (i=j):=(rfl)
    repeat' first|((first|refine Br.dec ?_ ?_|refine Br.eqi ?_ ?_)<;>intro h<;>try (exfalso;omega))|refine Z20 ?_|with_reducible exact trivial|(refine Br.mk ?_ ?_<;>intro h)|(refine BrN.mk (fun h => ?_) ?_)|(refine AltVC.mk ?_ ?_)
    exact fin_mk (vbEq (by rw [e,Bool.eq_iff_iff,beq_iff_eq,decide_eq_true_eq];omega))
  | cons x l' =>
    have hl2:l.length=l'.length+1:=by rw [hlc];rfl
    have hx0:=hx x (by rw [hlc];simp)
    have hx':∀ y,y ∈ l'→0≤y∧y<g.k+g.n:=fun y hy=>hx y (by rw [hlc];exact List.mem_cons_of_mem _ hy)
    have h0:(i64s (x::l')).getD 0 []=[iv .i64 x]:=rfl
    have h1:(x::l').length=l'.length+1:=rfl
    have h2:(x::l').drop 1=l':=rfl
    repeat' first|((first|refine Br.dec ?_ ?_|refine Br.eqi ?_ ?_)<;>intro h<;>try (exfalso;omega))|refine Z21 ?_|with_reducible exact trivial|(refine Br.mk ?_ ?_<;>intro h)|(refine BrN.mk (fun h => ?_) ?_)|(refine AltVC.mk ?_ ?_)
    refine LoopVC.mk (X:=Nat) (fun m=>[(14,iv .i64 m)]) (fun _=>[(0,⟨4,[[iv .i64 g.k,iv .i64 g.n,iv .i64 g.start,.sl 2 (tbl rulD g.rules)]],true,false,.fix⟩)]) (fun m=>j+1 - m) (fun m=>i≤m∧m≤j+1∧∀ m',i≤m'→m'<m→¬ (oneB g w T x i m'=true∧ovB g w T l' m' j=true)) i ⟨Nat.le_refl _,by omega,fun m' h1 h2=>by omega⟩ ?_ ?_
    · (simp (disch:=first|omega|(simp only [vlen];first|done|omega)) only [Fits_u,Fits_m,Fits_nil,List.length_append,vcu,↓vAq,vBq,↓reduceIte,Nat.reduceBEq,Nat.reduceEqDiff,Nat.reduceLT,Nat.reduceLeDiff,Nat.reduceAdd,Nat.reduceMul,Nat.reduceSub,reduceCtorEq,Int.reduceToNat]<;>(repeat' first|rfl|apply And.intro))
    · rintro m ⟨hm1, hm2, hm3⟩
      by_cases hmj:m≤j
      · have hrec:=over_spec g w hc N hN T l' (by omega) hx' m j hmj hj
        by_cases hxk:x<g.k
        · have e:oneB g w T x i m=decide (m=i+1∧i<w.length∧w.getD i 0=x):=by unfold oneB;rw [if_pos hxk]
          by_cases ho:m=i+1∧w.getD i 0=x
          · have e1:oneB g w T x i m=true:=by rw [e];exact decide_eq_true ⟨ho.1,by omega,ho.2⟩
            have ho2:=ho.2
            cases hr:ovB g w T l' m j with
            | true =>
              rw [hr] at hrec
              repeat' first|((first|refine Br.dec ?_ ?_|refine Br.eqi ?_ ?_)<;>intro h<;>try (exfalso;omega))|refine Z21 ?_|with_reducible exact trivial|(refine Br.mk ?_ ?_<;>intro h)|(refine BrN.mk (fun h => ?_) ?_)|(refine AltVC.mk ?_ ?_)
              all_goals first|(exfalso;exact absurd ho2 (by assumption))|skip
              refine CallVC.eq hrec ?_
              repeat' first|((first|refine Br.dec ?_ ?_|refine Br.eqi ?_ ?_)<;>intro h<;>try (exfalso;omega))|refine Z20 ?_|with_reducible exact trivial|(refine Br.mk ?_ ?_<;>intro h)|(refine BrN.mk (fun h => ?_) ?_)|(refine AltVC.mk ?_ ?_)
              exact fin_mk (vbEq (ovB_cons.mpr ⟨m,hm1,hmj,e1,hr⟩).symm)
            | false =>
              rw [hr] at hrec
              repeat' first|((first|refine Br.dec ?_ ?_|refine Br.eqi ?_ ?_)<;>intro h<;>try (exfalso;omega))|refine Z21 ?_|with_reducible exact trivial|(refine Br.mk ?_ ?_<;>intro h)|(refine BrN.mk (fun h => ?_) ?_)|(refine AltVC.mk ?_ ?_)
              all_goals first|(exfalso;exact absurd ho2 (by assumption))|skip
              refine CallVC.eq hrec ?_
              repeat' first|((first|refine Br.dec ?_ ?_|refine Br.eqi ?_ ?_)<;>intro h<;>try (exfalso;omega))|refine Z20 ?_|with_reducible exact trivial|(refine Br.mk ?_ ?_<;>intro h)|(refine BrN.mk (fun h => ?_) ?_)|(refine AltVC.mk ?_ ?_)
              refine loopK.mk (m+1) Y0 ⟨by omega,by omega,fun m' h3 h4 => ?_⟩ (by omega) Y15
              by_cases e2:m'=m
              · subst e2;intro hh;rw [hr] at hh;cases hh.2
              · exact hm3 m' h3 (by omega)
          · have e1:oneB g w T x i m=false:=by rw [e];exact decide_eq_false fun h=>ho ⟨h.1,h.2.2⟩
            repeat' first|((first|refine Br.dec ?_ ?_|refine Br.eqi ?_ ?_)<;>intro h<;>try (exfalso;omega))|refine Z21 ?_|with_reducible exact trivial|(refine Br.mk ?_ ?_<;>intro h)|(refine BrN.mk (fun h => ?_) ?_)|(refine AltVC.mk ?_ ?_)
            all_goals first
              | (exfalso;exact ho ⟨by omega,by assumption⟩)
              | (
                refine loopK.mk (m+1) Y0 ⟨by omega,by omega,fun m' h3 h4 => ?_⟩ (by omega) Y15
                by_cases e2:m'=m
                · subst e2;intro hh;rw [e1] at hh;cases hh.1
                · exact hm3 m' h3 (by omega)
                )
        · obtain ⟨a,ha⟩ : ∃ a:Nat,x - g.k=a:=⟨(x - g.k).toNat,by omega⟩
          have e:oneB g w T x i m=T a i m:=by unfold oneB;rw [if_neg hxk,ha,Int.toNat_natCast]
          have hb2:=@tbb_len (w.length+1) (fun j=>T a i j)
          cases ht:T a i m with
          | true =>
            rw [ht] at e
            cases hr:ovB g w T l' m j with
            | true =>
              rw [hr] at hrec
              repeat' first|((first|refine Br.dec ?_ ?_|refine Br.eqi ?_ ?_)<;>intro h<;>try (exfalso;omega))|refine Z30 ?_|with_reducible exact trivial|(refine Br.mk ?_ ?_<;>intro h)|(refine BrN.mk (fun h => ?_) ?_)|(refine AltVC.mk ?_ ?_)
              refine CallVC.eq hrec ?_
              repeat' first|((first|refine Br.dec ?_ ?_|refine Br.eqi ?_ ?_)<;>intro h<;>try (exfalso;omega))|refine Z20 ?_|with_reducible exact trivial|(refine Br.mk ?_ ?_<;>intro h)|(refine BrN.mk (fun h => ?_) ?_)|(refine AltVC.mk ?_ ?_)
              exact fin_mk (vbEq (ovB_cons.mpr ⟨m,hm1,hmj,e,hr⟩).symm)
            | false =>
              rw [hr] at hrec
              repeat' first|((first|refine Br.dec ?_ ?_|refine Br.eqi ?_ ?_)<;>intro h<;>try (exfalso;omega))|refine Z30 ?_|with_reducible exact trivial|(refine Br.mk ?_ ?_<;>intro h)|(refine BrN.mk (fun h => ?_) ?_)|(refine AltVC.mk ?_ ?_)
              refine CallVC.eq hrec ?_
              repeat' first|((first|refine Br.dec ?_ ?_|refine Br.eqi ?_ ?_)<;>intro h<;>try (exfalso;omega))|refine Z20 ?_|with_reducible exact trivial|(refine Br.mk ?_ ?_<;>intro h)|(refine BrN.mk (fun h => ?_) ?_)|(refine AltVC.mk ?_ ?_)
              refine loopK.mk (m+1) Y0 ⟨by omega,by omega,fun m' h3 h4 => ?_⟩ (by omega) Y15
              by_cases e2:m'=m
              · subst e2;intro hh;rw [hr] at hh;cases hh.2
              · exact hm3 m' h3 (by omega)
          | false =>
            rw [ht] at e
            repeat' first|((first|refine Br.dec ?_ ?_|refine Br.eqi ?_ ?_)<;>intro h<;>try (exfalso;omega))|refine Z30 ?_|with_reducible exact trivial|(refine Br.mk ?_ ?_<;>intro h)|(refine BrN.mk (fun h => ?_) ?_)|(refine AltVC.mk ?_ ?_)
            refine loopK.mk (m+1) Y0 ⟨by omega,by omega,fun m' h3 h4 => ?_⟩ (by omega) Y15
            by_cases e2:m'=m
            · subst e2;intro hh;rw [e] at hh;cases hh.1
            · exact hm3 m' h3 (by omega)
      · repeat' first|((first|refine Br.dec ?_ ?_|refine Br.eqi ?_ ?_)<;>intro h<;>try (exfalso;omega))|refine Z21 ?_|with_reducible exact trivial|(refine Br.mk ?_ ?_<;>intro h)|(refine BrN.mk (fun h => ?_) ?_)|(refine AltVC.mk ?_ ?_)
        exact fin_mk (vbEq (ovB_no fun m' h3 h4=>hm3 m' h3 (by omega)).symm)
termination_by l.length
def rwC (T:Nat→Nat→Nat→Bool) (n a i:Nat):D:=.own false 1 (bls (tbb n fun j=>T a i j))
def plC (T:Nat→Nat→Nat→Bool) (n a:Nat):D:=.own true 1 (tabD n fun i=>rwC T n a i)
theorem rwC_eq {T:Nat→Nat→Nat→Bool} {n a i:Nat}:rwC T n a i=.own false 1 (bls (tbb n fun j=>T a i j)):=(rfl)
theorem plC_eq {T:Nat→Nat→Nat→Bool} {n a:Nat}:plC T n a=.own true 1 (tabD n fun i=>rwC T n a i):=(rfl)
section
variable {T:Nat→Nat→Nat→Bool} {n a i:Nat} {s:S} {τ m:Nat} {ob:Ob}
theorem rwC_kill:(rwC T n a i).kill τ=rwC T n a i:=by simp [rwC,kill_oo]
theorem plC_kill:(plC T n a).kill τ=plC T n a:=by simp [plC,kill_oo]
theorem rwC_trim:(rwC T n a i).trim m=rwC T n a i:=by simp [rwC,trim_oo]
theorem plC_trim:(plC T n a).trim m=plC T n a:=by simp [plC,trim_oo]
theorem rwC_kOwn {τ' i' o':Nat} {k:S→D→Prop}:kOwn s τ' i' o' ob k (rwC T n a i)=Chk (τ' ≠ s.N) (kRefN k 1 (bls (tbb n fun j=>T a i j)).length) (s.unfold τ' i' o' ob false 1 (bls (tbb n fun j=>T a i j))):=(rfl)
theorem plC_kOwn {τ' i' o':Nat} {k:S→D→Prop}:kOwn s τ' i' o' ob k (plC T n a)=Chk (τ' ≠ s.N) (kRefN k 1 (tabD n fun i=>rwC T n a i).length) (s.unfold τ' i' o' ob true 1 (tabD n fun i=>rwC T n a i)):=(rfl)
end
theorem tbb_take {n:Nat} {f:Nat→Bool}:(tbb n f).take n=tbb n f:=List.take_of_length_le (by rw [tbb_len];exact Nat.le_refl _)
theorem tabD_takeA {n:Nat} {f:Nat→D}:(tabD n f).take n=tabD n f:=List.take_of_length_le (by rw [tabD_len];exact Nat.le_refl _)
theorem tbb_takeB {n:Nat} {f:Nat→Bool}:(bls (tbb n f)).take n=bls (tbb n f):=List.take_of_length_le (by rw [tbb_bls];exact Nat.le_refl _)
theorem vwR_cu {T:Nat→Nat→Nat→Bool} {N n:Nat}:vwR (tabD N fun b=>plC T n b)=tabD N fun a=>.sl 1 (tabD n fun i=>.sl 1 (bls (tbb n fun j=>T a i j))):=by
  simp only [vwR,tabD,List.map_map]
  refine List.map_congr_left fun a _ => ?_
  simp only [Function.comp,List.map_cons,List.map_nil,plC,vw_own,if_true,tabD,List.map_map]
  congr 2
  refine List.map_congr_left fun i _ => ?_
  simp only [Function.comp,List.map_cons,List.map_nil,rwC,vw_own,Bool.false_eq_true,if_false]
def vct:=And.intro vcu<|And.intro @vwR_cu<|And.intro @tbb_take<|And.intro @tabD_takeA<|And.intro @tbb_takeB<|And.intro @rwC_kill<|And.intro @plC_kill<|And.intro @rwC_trim<|And.intro @plC_trim<|And.intro @rwC_kOwn<|And.intro @plC_kOwn @Int.add_sub_cancel
def F3:Nat→Nat→Nat→Bool:=fun _ _ _=>false
theorem obTabW {n:Nat} {f g:Nat→D} {a b b':Bool} {c:Kd} (h:∀ j,j<n→f j=g j) (hb:b=b'):some (⟨1,tabD n f,a,b,c⟩:Ob)=some ⟨1,tabD n g,a,b',c⟩:=by rw [tabD_ext h,hb]
def upd3 (T:Nat→Nat→Nat→Bool) (a i j:Nat):Nat→Nat→Nat→Bool:=fun b k m=>if b=a∧k=i∧m=j then true else T b k m
theorem upd3_at {T:Nat→Nat→Nat→Bool} {a i j:Nat}:upd3 T a i j a i j=true:=if_pos ⟨rfl,rfl,rfl⟩
theorem upd3_ne {T:Nat→Nat→Nat→Bool} {a i j b k m:Nat} (h:¬ (b=a∧k=i∧m=j)):upd3 T a i j b k m=T b k m:=if_neg h
def cwt (N n:Nat) (T:Nat→Nat→Nat→Bool):Nat:=nsum (fun a=>nsum (fun i=>nsum (fun j=>if T a i j=true then 1 else 0) n) n) N
theorem cwt_le {N n:Nat} {T:Nat→Nat→Nat→Bool} (hN:N≤5) (hn:n≤13):cwt N n T≤845:=by
  have h1:∀ a i,nsum (fun j=>if T a i j=true then 1 else 0) n≤13:=fun a i=>Nat.le_trans (nsum_const (c:=1) fun j _=>by split<;>omega) (by omega)
  have h2:∀ a,nsum (fun i=>nsum (fun j=>if T a i j=true then 1 else 0) n) n≤169:=fun a=>Nat.le_trans (nsum_const (c:=13) fun i _=>h1 a i) (by omega)
  exact Nat.le_trans (nsum_const (c:=169) fun a _=>h2 a) (by omega)
theorem cwt_upd {N n a i j:Nat} {T:Nat→Nat→Nat→Bool} (ha:a<N) (hi:i<n) (hj:j<n) (h:T a i j=false):cwt N n T<cwt N n (upd3 T a i j):=by
  have hle:∀ b k m,(if T b k m=true then 1 else 0)≤(if upd3 T a i j b k m=true then 1 else 0):=fun b k m=>by
    by_cases e:b=a∧k=i∧m=j
    · obtain ⟨rfl,rfl,rfl⟩:=e;rw [upd3_at,h];simp
    · rw [upd3_ne e];exact Nat.le_refl _
  refine nsum_lt_of (m:=a) (fun b _=>nsum_le_of fun k _=>nsum_le_of fun m _=>hle b k m) ha ?_
  refine nsum_lt_of (m:=i) (fun k _=>nsum_le_of fun m _=>hle a k m) hi ?_
  exact nsum_lt_of (m:=j) (fun m _=>hle a i m) hj (by rw [upd3_at,h];simp)
def Snd3 (g:Grammar) (w:List Int) (T:Nat→Nat→Nat→Bool):Prop:=∀ a i j,T a i j=true→i≤j∧Der g w [g.k+a] i j
theorem Snd3.ov {g:Grammar} {w:List Int} {T:Nat→Nat→Nat→Bool} (h:Snd3 g w T) {l:List Int} {i j:Nat} (ho:ovB g w T l i j=true):Der g w l i j:=ovB_sound (fun a i j _ ht=>(h a i j ht).2) ho
theorem Snd3.add {g:Grammar} {w:List Int} {T:Nat→Nat→Nat→Bool} (h:Snd3 g w T) {q a i j:Nat} (hk:1≤g.k) (hq:q<g.rules.length) (ha:(g.rules.getD q default).left=a) (hij:i≤j) (hd:Der g w (g.rules.getD q default).right i j):Snd3 g w (upd3 T a i j):=fun b k m hb=>by
  by_cases e:b=a∧k=i∧m=j
  · obtain ⟨rfl,rfl,rfl⟩:=e
    exact ⟨hij,(der_name (by omega)).mpr ⟨q,hq,by omega,hd⟩⟩
  · rw [upd3_ne e] at hb
    exact h b k m hb
def CLT (g:Grammar) (w:List Int) (T:Nat→Nat→Nat→Bool) (q i j:Nat):Prop:=i≤j→ovB g w T (g.rules.getD q default).right i j=true→T (g.rules.getD q default).left.toNat i j=true
def tbO (g:Grammar) (N n:Nat) (T:Nat→Nat→Nat→Bool):List (Nat × Ob):=[(0,⟨4,[[iv .i64 g.k,iv .i64 N,iv .i64 g.start,.sl 2 (tbl rulD g.rules)]],true,false,.fix⟩),(2,⟨1,tabD N fun b=>plC T n b,true,true,.arr⟩)]
set_option maxRecDepth 10000 in
set_option maxHeartbeats 4000000 in
theorem table_spec (g : Grammar) (w : List Int) (hc : CV g w) (N n : Nat) (hN : g.n = N) (hn' : n = w.length + 1) : Dm.Spec Try.prog 18 [.ag (graD g), .sl 1 (i64s w)] (fun d => ∃ T : Nat → Nat → Nat → Bool, d = cuV T N n ∧ ∀ l i j, i ≤ w.length → (ovB g w T l i j = true ↔ Der g w l i j)) := by
  refine spec_of_vc mixed Try.func18 c18 (by rw [show Try.f18.ntmps=_ from Try.ntmps18];simp) ?_
  unfold m18 r18
  have hk:=hc.v.k
  have hn:=hc.v.n
  have hw:=hc.w
  have hlen:=hc.v.len
  have hwi:(w.length:Int)+1=(n:Int):=by omega
  rw [hN] at hn
  repeat' first|((first|refine Br.dec ?_ ?_|refine Br.eqi ?_ ?_)<;>intro h<;>try (exfalso;omega))|refine Z7 ?_|with_reducible exact trivial|(refine Br.mk ?_ ?_<;>intro h)|(refine BrN.mk (fun h => ?_) ?_)|(refine AltVC.mk ?_ ?_)
  rw [tabD_rep]
  refine LoopVC.mk (X:=Nat) (fun a=>[(6,.ref 2 1 0 N),(7,iv .i64 a)]) (fun a=>[(0,⟨4,[[iv .i64 g.k,iv .i64 N,iv .i64 g.start,.sl 2 (tbl rulD g.rules)]],true,false,.fix⟩),(2,⟨1,tabD N fun b=>if b<a then plC F3 n b else .nl,true,decide (0<a),.arr⟩)]) (fun a=>N - a) (fun a=>a≤N) 0 (Nat.zero_le _) ?_ ?_
  · (simp (disch:=first|omega|(simp only [vlen];first|done|omega)) only [Fits_u,Fits_m,Fits_nil,List.length_append,vct,hN,↓vAq,vBq,↓reduceIte,Nat.reduceBEq,Nat.reduceEqDiff,Nat.reduceLT,Nat.reduceLeDiff,Nat.reduceAdd,Nat.reduceMul,Nat.reduceSub,reduceCtorEq,Int.reduceToNat]<;>(repeat' first|rfl|apply And.intro))
    all_goals first|rfl|skip
  · intro a ha
    by_cases haN:a<N
    · repeat' first|((first|refine Br.dec ?_ ?_|refine Br.eqi ?_ ?_)<;>intro h<;>try (exfalso;omega))|refine Z7 ?_|with_reducible exact trivial|(refine Br.mk ?_ ?_<;>intro h)|(refine BrN.mk (fun h => ?_) ?_)|(refine AltVC.mk ?_ ?_)
      rw [tabD_rep]
      refine LoopVC.mk (X:=Nat) (fun i=>[(6,.ref 2 1 0 N),(8,iv .i64 i)]) (fun i=>[(0,⟨4,[[iv .i64 g.k,iv .i64 N,iv .i64 g.start,.sl 2 (tbl rulD g.rules)]],true,false,.fix⟩),(2,⟨1,tabD N fun b=>if b=a then .ref 3 1 0 n else if b<a then plC F3 n b else .nl,false,decide (0<a),.arr⟩),(3,⟨1,tabD n fun k=>if k<i then rwC F3 n a k else .nl,true,decide (0<i),.arr⟩)]) (fun i=>n - i) (fun i=>i≤n) 0 (Nat.zero_le _) ?_ ?_
      · (simp (disch:=first|omega|(simp only [vlen];first|done|omega)) only [Fits_u,Fits_m,Fits_nil,List.length_append,vct,hN,↓vAq,vBq,↓reduceIte,Nat.reduceBEq,Nat.reduceEqDiff,Nat.reduceLT,Nat.reduceLeDiff,Nat.reduceAdd,Nat.reduceMul,Nat.reduceSub,reduceCtorEq,Int.reduceToNat]<;>(repeat' first|rfl|apply And.intro))
        all_goals first|rfl|skip
      · intro i hi
        by_cases hin:i<n
        · repeat' first|((first|refine Br.dec ?_ ?_|refine Br.eqi ?_ ?_)<;>intro h<;>try (exfalso;omega))|refine Z7 ?_|with_reducible exact trivial|(refine Br.mk ?_ ?_<;>intro h)|(refine BrN.mk (fun h => ?_) ?_)|(refine AltVC.mk ?_ ?_)
          rw [tbb_rep]
          refine loopK.fold 4 3 i 0 true ?_
          repeat' first|((first|refine Br.dec ?_ ?_|refine Br.eqi ?_ ?_)<;>intro h<;>try (exfalso;omega))|refine Z7 ?_|with_reducible exact trivial|(refine Br.mk ?_ ?_<;>intro h)|(refine BrN.mk (fun h => ?_) ?_)|(refine AltVC.mk ?_ ?_)
          refine Chk.mk ⟨Nat.le_refl _,tabD_all fun j hj=>by (repeat' split)<;>first|rfl|exact clo'_nl⟩ ?_
          refine loopK.mk (i+1) Y0 (by omega) (by omega) ?_
          (simp (disch:=first|omega|(simp only [vlen];first|done|omega)) only [Fits_u,Fits_m,Fits_nil,List.length_append,vct,hN,↓vAq,vBq,↓reduceIte,Nat.reduceBEq,Nat.reduceEqDiff,Nat.reduceLT,Nat.reduceLeDiff,Nat.reduceAdd,Nat.reduceMul,Nat.reduceSub,reduceCtorEq,Int.reduceToNat]<;>(repeat' first|rfl|apply And.intro))
          exact obTabW (fun j hj=>by
            by_cases e:j=i
            · subst e;rw [if_pos rfl,if_pos (by omega)];rfl
            · rw [if_neg e];(repeat' split)<;>first|rfl|omega) (decide_eq_true (by omega)).symm
        · repeat' first|((first|refine Br.dec ?_ ?_|refine Br.eqi ?_ ?_)<;>intro h<;>try (exfalso;omega))|refine Z7 ?_|with_reducible exact trivial|(refine Br.mk ?_ ?_<;>intro h)|(refine BrN.mk (fun h => ?_) ?_)|(refine AltVC.mk ?_ ?_)
          refine loopK.fold 3 2 a 0 true ?_
          repeat' first|((first|refine Br.dec ?_ ?_|refine Br.eqi ?_ ?_)<;>intro h<;>try (exfalso;omega))|refine Z7 ?_|with_reducible exact trivial|(refine Br.mk ?_ ?_<;>intro h)|(refine BrN.mk (fun h => ?_) ?_)|(refine AltVC.mk ?_ ?_)
          refine Chk.mk ⟨Nat.le_refl _,tabD_all fun j hj=>by (repeat' split)<;>first|rfl|exact clo'_nl⟩ ?_
          refine loopK.mk (a+1) Y0 (by omega) (by omega) ?_
          (simp (disch:=first|omega|(simp only [vlen];first|done|omega)) only [Fits_u,Fits_m,Fits_nil,List.length_append,vct,hN,↓vAq,vBq,↓reduceIte,Nat.reduceBEq,Nat.reduceEqDiff,Nat.reduceLT,Nat.reduceLeDiff,Nat.reduceAdd,Nat.reduceMul,Nat.reduceSub,reduceCtorEq,Int.reduceToNat]<;>(repeat' first|rfl|apply And.intro))
          refine obTabW (fun j hj => ?_) (decide_eq_true (by omega)).symm
          by_cases e:j=a
          · subst e
            rw [if_pos rfl,if_pos (by omega),decide_eq_true (show 0<i by omega),tabD_ext (g:=fun k=>rwC F3 n j k) fun k hk=>if_pos (by omega)]
            rfl
          · rw [if_neg e];(repeat' split)<;>first|rfl|omega
    · have e1 : (tabD N fun b => if b < a then plC F3 n b else .nl) = tabD N fun b => plC F3 n b := tabD_ext fun j hj => by rw [if_pos (by omega)]
      rw [e1,decide_eq_true (show 0<a by omega)]
      repeat' first|((first|refine Br.dec ?_ ?_|refine Br.eqi ?_ ?_)<;>intro h<;>try (exfalso;omega))|refine Z7 ?_|with_reducible exact trivial|(refine Br.mk ?_ ?_<;>intro h)|(refine BrN.mk (fun h => ?_) ?_)|(refine AltVC.mk ?_ ?_)
      refine LoopVC.mk (X:=(Nat→Nat→Nat→Bool) × Bool) (fun x=>[(6,.ref 2 1 0 N),(9,.v (.bool x.2))]) (fun x=>tbO g N n x.1) (fun x=>if x.2 then 846 - cwt N n x.1 else 0) (fun x=>Snd3 g w x.1∧(x.2=false→∀ q i j,q<g.rules.length→j≤w.length→CLT g w x.1 q i j)) (F3,true) ⟨fun a i j h=>by simp [F3] at h,by simp⟩ ?_ ?_
      · unfold tbO
        (simp (disch:=first|omega|(simp only [vlen];first|done|omega)) only [Fits_u,Fits_m,Fits_nil,List.length_append,vct,hN,↓vAq,vBq,↓reduceIte,Nat.reduceBEq,Nat.reduceEqDiff,Nat.reduceLT,Nat.reduceLeDiff,Nat.reduceAdd,Nat.reduceMul,Nat.reduceSub,reduceCtorEq,Int.reduceToNat]<;>(repeat' first|rfl|apply And.intro))
        all_goals first|rfl|skip
      · rintro ⟨T0, m0⟩ ⟨hS0, hc0⟩
        simp only at hS0 hc0 ⊢
        unfold tbO
        have hW0:=@cwt_le N n T0 (by omega) (by omega)
        cases m0 with
        | false =>
          have hF:∀ l i j,i≤w.length→(ovB g w T0 l i j=true ↔ Der g w l i j):=fun l i j hi=>⟨fun ho=>hS0.ov ho,fun hd=>ovB_all (fun q hq i j hij hj ho=>hc0 rfl q i j hq hj hij ho) hd hi⟩
          repeat' first|((first|refine Br.dec ?_ ?_|refine Br.eqi ?_ ?_)<;>intro h<;>try (exfalso;omega))|refine Z7 ?_|with_reducible exact trivial|(refine Br.mk ?_ ?_<;>intro h)|(refine BrN.mk (fun h => ?_) ?_)|(refine AltVC.mk ?_ ?_)
          exact fin_mk ⟨T0,rfl,hF⟩
        | true =>
          repeat' first|((first|refine Br.dec ?_ ?_|refine Br.eqi ?_ ?_)<;>intro h<;>try (exfalso;omega))|refine Z7 ?_|with_reducible exact trivial|(refine Br.mk ?_ ?_<;>intro h)|(refine BrN.mk (fun h => ?_) ?_)|(refine AltVC.mk ?_ ?_)
          refine LoopVC.mk (X:=(Nat→Nat→Nat→Bool) × Bool × Nat) (fun x=>[(6,.ref 2 1 0 N),(9,.v (.bool x.2.1)),(48,iv .i64 x.2.2)]) (fun x=>tbO g N n x.1) (fun x=>g.rules.length - x.2.2) (fun x=>Snd3 g w x.1∧x.2.2≤g.rules.length∧cwt N n T0+(if x.2.1 then 1 else 0)≤cwt N n x.1∧(x.2.1=false→∀ q i j,q<x.2.2→j≤w.length→CLT g w x.1 q i j)) (T0,false,0) ⟨hS0,Nat.zero_le _,by simp,fun _ q i j hq=>absurd hq (Nat.not_lt_zero _)⟩ ?_ ?_
          · unfold tbO
            (simp (disch:=first|omega|(simp only [vlen];first|done|omega)) only [Fits_u,Fits_m,Fits_nil,List.length_append,vct,hN,↓vAq,vBq,↓reduceIte,Nat.reduceBEq,Nat.reduceEqDiff,Nat.reduceLT,Nat.reduceLeDiff,Nat.reduceAdd,Nat.reduceMul,Nat.reduceSub,reduceCtorEq,Int.reduceToNat]<;>(repeat' first|rfl|apply And.intro))
            all_goals first|rfl|skip
          · rintro ⟨T1, m1, q⟩ ⟨hS1, hq, hw1, hc1⟩
            simp only at hS1 hq hw1 hc1 ⊢
            unfold tbO
            have hW1:=@cwt_le N n T1 (by omega) (by omega)
            by_cases hql:q<g.rules.length
            · have hmr := getD_mem' (l := g.rules) (i := q) hql
              have hleft:=hc.v.left _ hmr
              have hlong:=hc.v.long _ hmr
              obtain ⟨a,ha⟩ : ∃ a:Nat,(g.rules.getD q default).left=a:=⟨(g.rules.getD q default).left.toNat,by omega⟩
              repeat' first|((first|refine Br.dec ?_ ?_|refine Br.eqi ?_ ?_)<;>intro h<;>try (exfalso;omega))|refine Z7 ?_|with_reducible exact trivial|(refine Br.mk ?_ ?_<;>intro h)|(refine BrN.mk (fun h => ?_) ?_)|(refine AltVC.mk ?_ ?_)
              refine LoopVC.mk (X:=(Nat→Nat→Nat→Bool) × Bool × Nat) (fun x=>[(6,.ref 2 1 0 N),(9,.v (.bool x.2.1)),(12,iv .i64 x.2.2)]) (fun x=>tbO g N n x.1++[(3,⟨2,[[iv .i64 (g.rules.getD q default).left,.sl 1 (i64s (g.rules.getD q default).right)]],true,false,.fix⟩)]) (fun x=>n - x.2.2) (fun x=>Snd3 g w x.1∧x.2.2≤n∧cwt N n T0+(if x.2.1 then 1 else 0)≤cwt N n x.1∧(x.2.1=false→(∀ q' i j,q'<q→j≤w.length→CLT g w x.1 q' i j)∧∀ i j,i<x.2.2→j≤w.length→CLT g w x.1 q i j)) (T1,m1,0) ⟨hS1,Nat.zero_le _,hw1,fun h=>⟨hc1 h,fun i j hi=>absurd hi (Nat.not_lt_zero _)⟩⟩ ?_ ?_
              · simp only [tbO,List.cons_append,List.nil_append]
                (simp (disch:=first|omega|(simp only [vlen];first|done|omega)) only [Fits_u,Fits_m,Fits_nil,List.length_append,vct,hN,↓vAq,vBq,↓reduceIte,Nat.reduceBEq,Nat.reduceEqDiff,Nat.reduceLT,Nat.reduceLeDiff,Nat.reduceAdd,Nat.reduceMul,Nat.reduceSub,reduceCtorEq,Int.reduceToNat]<;>(repeat' first|rfl|apply And.intro))
                all_goals first|rfl|skip
              · rintro ⟨T2, m2, i⟩ ⟨hS2, hi, hw2, hc2⟩
                simp only at hS2 hi hw2 hc2 ⊢
                simp only [tbO,List.cons_append,List.nil_append]
                by_cases hin:i<n
                · repeat' first | ((first | refine Br.dec ?_ ?_ | refine Br.eqi ?_ ?_) <;> intro h <;> try (exfalso; omega)) | refine Z7 ?_ | with_reducible exact trivial | (refine Br.mk ?_ ?_ <;> intro h) | (refine BrN.mk (fun h => ?_) ?_) | (refine AltVC.mk ?_ ?_)
                  refine LoopVC.mk (X:=(Nat→Nat→Nat→Bool) × Bool × Nat) (fun x=>[(6,.ref 2 1 0 N),(9,.v (.bool x.2.1)),(13,iv .i64 x.2.2)]) (fun x=>tbO g N n x.1++[(3,⟨2,[[iv .i64 (g.rules.getD q default).left,.sl 1 (i64s (g.rules.getD q default).right)]],true,false,.fix⟩)]) (fun x=>n - x.2.2) (fun x=>Snd3 g w x.1∧i≤x.2.2∧x.2.2≤n∧cwt N n T0+(if x.2.1 then 1 else 0)≤cwt N n x.1∧(x.2.1=false→(∀ q' i j,q'<q→j≤w.length→CLT g w x.1 q' i j)∧(∀ i' j,i'<i→j≤w.length→CLT g w x.1 q i' j)∧∀ j,j<x.2.2→CLT g w x.1 q i j)) (T2,m2,i) ⟨hS2,Nat.le_refl _,hi,hw2,fun h=>⟨(hc2 h).1,(hc2 h).2,fun j hj hij=>by simp only at hj;omega⟩⟩ ?_ ?_
                  · simp only [tbO,List.cons_append,List.nil_append]
                    (simp (disch:=first|omega|(simp only [vlen];first|done|omega)) only [Fits_u,Fits_m,Fits_nil,List.length_append,vct,hN,↓vAq,vBq,↓reduceIte,Nat.reduceBEq,Nat.reduceEqDiff,Nat.reduceLT,Nat.reduceLeDiff,Nat.reduceAdd,Nat.reduceMul,Nat.reduceSub,reduceCtorEq,Int.reduceToNat]<;>(repeat' first|rfl|apply And.intro))
                    all_goals first|rfl|skip
                  · rintro ⟨T, m, j⟩ ⟨hS, hj1, hj2, hw3, hc3⟩
                    simp only at hS hj1 hj2 hw3 hc3 ⊢
                    simp only [tbO,List.cons_append,List.nil_append]
                    have hbl:=@tbb_len n (fun j=>T a i j)
                    have hf1:(tabD n fun k=>if k=i then .own false 1 (bls (tbb n fun j=>T a i j)) else rwC T n a k)=tabD n fun k=>rwC T n a k:=tabD_ext fun k _=>by
                      by_cases e:k=i
                      · subst e;rw [if_pos rfl];rfl
                      · rw [if_neg e]
                    have hf2:(tabD N fun b=>if b=a then .own true 1 (tabD n fun k=>rwC T n a k) else plC T n b)=tabD N fun b=>plC T n b:=tabD_ext fun b _=>by
                      by_cases e:b=a
                      · subst e;rw [if_pos rfl];rfl
                      · rw [if_neg e]
                    by_cases hjn:j<n
                    · cases hT : T a i j with
                      | true =>
                        repeat' first|((first|refine Br.dec ?_ ?_|refine Br.eqi ?_ ?_)<;>intro h<;>try (exfalso;omega))|refine Z17 ?_|with_reducible exact trivial|(refine Br.mk ?_ ?_<;>intro h)|(refine BrN.mk (fun h => ?_) ?_)|(refine AltVC.mk ?_ ?_)
                        refine loopK.fold 5 4 i 0 true ?_
                        repeat' first|((first|refine Br.dec ?_ ?_|refine Br.eqi ?_ ?_)<;>intro h<;>try (exfalso;omega))|refine Z18 ?_|with_reducible exact trivial|(refine Br.mk ?_ ?_<;>intro h)|(refine BrN.mk (fun h => ?_) ?_)|(refine AltVC.mk ?_ ?_)
                        refine Chk.mk ⟨Nat.le_refl _,tabD_all fun j hj=>by (repeat' split)<;>first|rfl|exact clo'_nl⟩ ?_
                        repeat' first|((first|refine Br.dec ?_ ?_|refine Br.eqi ?_ ?_)<;>intro h<;>try (exfalso;omega))|refine Z18 ?_|with_reducible exact trivial|(refine Br.mk ?_ ?_<;>intro h)|(refine BrN.mk (fun h => ?_) ?_)|(refine AltVC.mk ?_ ?_)
                        refine loopK.fold 4 2 a 0 true ?_
                        repeat' first|((first|refine Br.dec ?_ ?_|refine Br.eqi ?_ ?_)<;>intro h<;>try (exfalso;omega))|refine Z14 ?_|with_reducible exact trivial|(refine Br.mk ?_ ?_<;>intro h)|(refine BrN.mk (fun h => ?_) ?_)|(refine AltVC.mk ?_ ?_)
                        refine Chk.mk ⟨Nat.le_refl _,tabD_all fun j hj=>by (repeat' split)<;>first|rfl|exact clo'_nl⟩ ?_
                        refine loopK.mk (T,m,j+1) Y0 ⟨hS,by show i≤j+1;omega,by show j+1≤n;omega,hw3,fun h=>⟨(hc3 h).1,(hc3 h).2.1,fun j' h1 => ?_⟩⟩ (by show n - (j+1)<n - j;omega) ?_
                        · by_cases e:j'=j
                          · subst e;intro _ _;rw [ha,Int.toNat_natCast];exact hT
                          · exact (hc3 h).2.2 j' (by have:j'<j+1:=h1;omega)
                        · (simp (disch:=first|omega|(simp only [vlen];first|done|omega)) only [Fits_u,Fits_m,Fits_nil,List.length_append,vct,hN,ha,hf1,hf2,↓vAq,vBq,↓reduceIte,Nat.reduceBEq,Nat.reduceEqDiff,Nat.reduceLT,Nat.reduceLeDiff,Nat.reduceAdd,Nat.reduceMul,Nat.reduceSub,reduceCtorEq,Int.reduceToNat]<;>(repeat' first|rfl|apply And.intro))
                          all_goals first|rfl|skip
                      | false =>
                        have hO:=over_spec g w hc N hN T (g.rules.getD q default).right hlong (hc.v.right _ hmr) i j hj1 (by omega)
                        rw [graD_eq,hN,← hn'] at hO
                        cases ho:ovB g w T (g.rules.getD q default).right i j with
                        | false =>
                          rw [ho] at hO
                          repeat' first|((first|refine Br.dec ?_ ?_|refine Br.eqi ?_ ?_)<;>intro h<;>try (exfalso;omega))|refine Z17 ?_|with_reducible exact trivial|(refine Br.mk ?_ ?_<;>intro h)|(refine BrN.mk (fun h => ?_) ?_)|(refine AltVC.mk ?_ ?_)
                          refine CallVC.fold 5 4 i 0 true ?_
                          repeat' first|((first|refine Br.dec ?_ ?_|refine Br.eqi ?_ ?_)<;>intro h<;>try (exfalso;omega))|refine Z18 ?_|with_reducible exact trivial|(refine Br.mk ?_ ?_<;>intro h)|(refine BrN.mk (fun h => ?_) ?_)|(refine AltVC.mk ?_ ?_)
                          refine Chk.mk ⟨Nat.le_refl _,tabD_all fun j hj=>by (repeat' split)<;>first|rfl|exact clo'_nl⟩ ?_
                          repeat' first|((first|refine Br.dec ?_ ?_|refine Br.eqi ?_ ?_)<;>intro h<;>try (exfalso;omega))|refine Z18 ?_|with_reducible exact trivial|(refine Br.mk ?_ ?_<;>intro h)|(refine BrN.mk (fun h => ?_) ?_)|(refine AltVC.mk ?_ ?_)
                          refine CallVC.fold 4 2 a 0 true ?_
                          repeat' first|((first|refine Br.dec ?_ ?_|refine Br.eqi ?_ ?_)<;>intro h<;>try (exfalso;omega))|refine Z14 ?_|with_reducible exact trivial|(refine Br.mk ?_ ?_<;>intro h)|(refine BrN.mk (fun h => ?_) ?_)|(refine AltVC.mk ?_ ?_)
                          refine Chk.mk ⟨Nat.le_refl _,tabD_all fun j hj=>by (repeat' split)<;>first|rfl|exact clo'_nl⟩ ?_
                          repeat' first|((first|refine Br.dec ?_ ?_|refine Br.eqi ?_ ?_)<;>intro h<;>try (exfalso;omega))|refine Z14 ?_|with_reducible exact trivial|(refine Br.mk ?_ ?_<;>intro h)|(refine BrN.mk (fun h => ?_) ?_)|(refine AltVC.mk ?_ ?_)
                          refine CallVC.eqo hO Y0 ?_
                          repeat' first|((first|refine Br.dec ?_ ?_|refine Br.eqi ?_ ?_)<;>intro h<;>try (exfalso;omega))|refine Z14 ?_|with_reducible exact trivial|(refine Br.mk ?_ ?_<;>intro h)|(refine BrN.mk (fun h => ?_) ?_)|(refine AltVC.mk ?_ ?_)
                          refine loopK.mk (T,m,j+1) Y0 ⟨hS,by show i≤j+1;omega,by show j+1≤n;omega,hw3,fun h=>⟨(hc3 h).1,(hc3 h).2.1,fun j' h1 => ?_⟩⟩ (by show n - (j+1)<n - j;omega) ?_
                          · by_cases e:j'=j
                            · subst e;intro _ h2;rw [ho] at h2;cases h2
                            · exact (hc3 h).2.2 j' (by have:j'<j+1:=h1;omega)
                          · (simp (disch:=first|omega|(simp only [vlen];first|done|omega)) only [Fits_u,Fits_m,Fits_nil,List.length_append,vct,hN,ha,hf1,hf2,↓vAq,vBq,↓reduceIte,Nat.reduceBEq,Nat.reduceEqDiff,Nat.reduceLT,Nat.reduceLeDiff,Nat.reduceAdd,Nat.reduceMul,Nat.reduceSub,reduceCtorEq,Int.reduceToNat]<;>(repeat' first|rfl|apply And.intro))
                            all_goals first|rfl|skip
                        | true =>
                          rw [ho] at hO
                          repeat' first|((first|refine Br.dec ?_ ?_|refine Br.eqi ?_ ?_)<;>intro h<;>try (exfalso;omega))|refine Z17 ?_|with_reducible exact trivial|(refine Br.mk ?_ ?_<;>intro h)|(refine BrN.mk (fun h => ?_) ?_)|(refine AltVC.mk ?_ ?_)
                          refine CallVC.fold 5 4 i 0 true ?_
                          repeat' first|((first|refine Br.dec ?_ ?_|refine Br.eqi ?_ ?_)<;>intro h<;>try (exfalso;omega))|refine Z18 ?_|with_reducible exact trivial|(refine Br.mk ?_ ?_<;>intro h)|(refine BrN.mk (fun h => ?_) ?_)|(refine AltVC.mk ?_ ?_)
                          refine Chk.mk ⟨Nat.le_refl _,tabD_all fun j hj=>by (repeat' split)<;>first|rfl|exact clo'_nl⟩ ?_
                          repeat' first|((first|refine Br.dec ?_ ?_|refine Br.eqi ?_ ?_)<;>intro h<;>try (exfalso;omega))|refine Z18 ?_|with_reducible exact trivial|(refine Br.mk ?_ ?_<;>intro h)|(refine BrN.mk (fun h => ?_) ?_)|(refine AltVC.mk ?_ ?_)
                          refine CallVC.fold 4 2 a 0 true ?_
                          repeat' first|((first|refine Br.dec ?_ ?_|refine Br.eqi ?_ ?_)<;>intro h<;>try (exfalso;omega))|refine Z14 ?_|with_reducible exact trivial|(refine Br.mk ?_ ?_<;>intro h)|(refine BrN.mk (fun h => ?_) ?_)|(refine AltVC.mk ?_ ?_)
                          refine Chk.mk ⟨Nat.le_refl _,tabD_all fun j hj=>by (repeat' split)<;>first|rfl|exact clo'_nl⟩ ?_
                          repeat' first|((first|refine Br.dec ?_ ?_|refine Br.eqi ?_ ?_)<;>intro h<;>try (exfalso;omega))|refine Z14 ?_|with_reducible exact trivial|(refine Br.mk ?_ ?_<;>intro h)|(refine BrN.mk (fun h => ?_) ?_)|(refine AltVC.mk ?_ ?_)
                          refine CallVC.eqo hO Y0 ?_
                          repeat' first|((first|refine Br.dec ?_ ?_|refine Br.eqi ?_ ?_)<;>intro h<;>try (exfalso;omega))|refine Z14 ?_|with_reducible exact trivial|(refine Br.mk ?_ ?_<;>intro h)|(refine BrN.mk (fun h => ?_) ?_)|(refine AltVC.mk ?_ ?_)
                          refine loopK.fold 7 6 i 0 true ?_
                          repeat' first|((first|refine Br.dec ?_ ?_|refine Br.eqi ?_ ?_)<;>intro h<;>try (exfalso;omega))|refine Z17 ?_|with_reducible exact trivial|(refine Br.mk ?_ ?_<;>intro h)|(refine BrN.mk (fun h => ?_) ?_)|(refine AltVC.mk ?_ ?_)
                          refine Chk.mk ⟨Nat.le_refl _,tabD_all fun j hj=>by (repeat' split)<;>first|rfl|exact clo'_nl⟩ ?_
                          repeat' first|((first|refine Br.dec ?_ ?_|refine Br.eqi ?_ ?_)<;>intro h<;>try (exfalso;omega))|refine Z17 ?_|with_reducible exact trivial|(refine Br.mk ?_ ?_<;>intro h)|(refine BrN.mk (fun h => ?_) ?_)|(refine AltVC.mk ?_ ?_)
                          refine loopK.fold 6 2 a 0 true ?_
                          repeat' first|((first|refine Br.dec ?_ ?_|refine Br.eqi ?_ ?_)<;>intro h<;>try (exfalso;omega))|refine Z17 ?_|with_reducible exact trivial|(refine Br.mk ?_ ?_<;>intro h)|(refine BrN.mk (fun h => ?_) ?_)|(refine AltVC.mk ?_ ?_)
                          refine Chk.mk ⟨Nat.le_refl _,tabD_all fun j hj=>by (repeat' split)<;>first|rfl|exact clo'_nl⟩ ?_
                          have hcu:=cwt_upd (N:=N) (n:=n) (a:=a) (by omega) hin hjn hT
                          have hW:=@cwt_le N n (upd3 T a i j) (by omega) (by omega)
                          refine loopK.mk (upd3 T a i j,true,j+1) Y0 ⟨hS.add (by omega) hql ha hj1 (hS.ov ho),by show i≤j+1;omega,by show j+1≤n;omega,by show cwt N n T0+(if true then 1 else 0)≤cwt N n (upd3 T a i j);simp only [if_true];omega,fun h=>by cases h⟩ (by show n - (j+1)<n - j;omega) ?_
                          (simp (disch:=first|omega|(simp only [vlen];first|done|omega)) only [Fits_u,Fits_m,Fits_nil,List.length_append,vct,hN,ha,↓vAq,vBq,↓reduceIte,Nat.reduceBEq,Nat.reduceEqDiff,Nat.reduceLT,Nat.reduceLeDiff,Nat.reduceAdd,Nat.reduceMul,Nat.reduceSub,reduceCtorEq,Int.reduceToNat]<;>(repeat' first|rfl|apply And.intro))
                          refine obTabW (fun b hb => ?_) rfl
                          by_cases e:b=a
                          · subst e
                            rw [if_pos rfl,plC_eq]
                            congr 1
                            refine tabD_ext fun k hk => ?_
                            by_cases e2:k=i
                            · subst e2
                              rw [if_pos rfl,rwC_eq,tbb_ext (g:=fun m=>upd3 T b k j b k m) fun m hm => ?_]
                              by_cases e3:m=j
                              · subst e3;rw [if_pos rfl,upd3_at]
                              · rw [if_neg e3,upd3_ne fun h=>e3 h.2.2]
                            · rw [if_neg e2,rwC_eq,rwC_eq,tbb_ext (g:=fun m=>upd3 T b i j b k m) fun m hm => ?_]
                              rw [upd3_ne fun h=>e2 h.2.1]
                          · rw [if_neg e,plC_eq,plC_eq]
                            congr 1
                            refine tabD_ext fun k hk => ?_
                            rw [rwC_eq,rwC_eq,tbb_ext (g:=fun m=>upd3 T a i j b k m) fun m hm => ?_]
                            rw [upd3_ne fun h=>e h.1]
                    · repeat' first|((first|refine Br.dec ?_ ?_|refine Br.eqi ?_ ?_)<;>intro h<;>try (exfalso;omega))|refine Z7 ?_|with_reducible exact trivial|(refine Br.mk ?_ ?_<;>intro h)|(refine BrN.mk (fun h => ?_) ?_)|(refine AltVC.mk ?_ ?_)
                      refine loopK.mk (T,m,i+1) Y0 ⟨hS,by show i+1≤n;omega,hw3,fun h=>⟨(hc3 h).1,fun i' j' h1 h2 => ?_⟩⟩ (by show n - (i+1)<n - i;omega) ?_
                      · by_cases e:i'=i
                        · subst e;exact (hc3 h).2.2 j' (by omega)
                        · exact (hc3 h).2.1 i' j' (by have:i'<i+1:=h1;omega) h2
                      · (simp (disch:=first|omega|(simp only [vlen];first|done|omega)) only [Fits_u,Fits_m,Fits_nil,List.length_append,vct,hN,↓vAq,vBq,↓reduceIte,Nat.reduceBEq,Nat.reduceEqDiff,Nat.reduceLT,Nat.reduceLeDiff,Nat.reduceAdd,Nat.reduceMul,Nat.reduceSub,reduceCtorEq,Int.reduceToNat]<;>(repeat' first|rfl|apply And.intro))
                        all_goals first|rfl|skip
                · repeat' first|((first|refine Br.dec ?_ ?_|refine Br.eqi ?_ ?_)<;>intro h<;>try (exfalso;omega))|refine Z7 ?_|with_reducible exact trivial|(refine Br.mk ?_ ?_<;>intro h)|(refine BrN.mk (fun h => ?_) ?_)|(refine AltVC.mk ?_ ?_)
                  refine loopK.mk (T2,m2,q+1) Y0 ⟨hS2,by show q+1≤g.rules.length;omega,hw2,fun h q' i' j' h1 h2 => ?_⟩ (by show g.rules.length - (q+1)<g.rules.length - q;omega) ?_
                  · by_cases e:q'=q
                    · subst e
                      intro hij
                      exact (hc2 h).2 i' j' (by omega) h2 hij
                    · exact (hc2 h).1 q' i' j' (by have:q'<q+1:=h1;omega) h2
                  · (simp (disch:=first|omega|(simp only [vlen];first|done|omega)) only [Fits_u,Fits_m,Fits_nil,List.length_append,vct,hN,↓vAq,vBq,↓reduceIte,Nat.reduceBEq,Nat.reduceEqDiff,Nat.reduceLT,Nat.reduceLeDiff,Nat.reduceAdd,Nat.reduceMul,Nat.reduceSub,reduceCtorEq,Int.reduceToNat]<;>(repeat' first|rfl|apply And.intro))
                    all_goals first|rfl|skip
            · repeat' first|((first|refine Br.dec ?_ ?_|refine Br.eqi ?_ ?_)<;>intro h<;>try (exfalso;omega))|refine Z7 ?_|with_reducible exact trivial|(refine Br.mk ?_ ?_<;>intro h)|(refine BrN.mk (fun h => ?_) ?_)|(refine AltVC.mk ?_ ?_)
              refine loopK.mk (T1,m1) Y0 ⟨hS1,fun h q' i' j' h1 h2=>hc1 h q' i' j' (by omega) h2⟩ ?_ ?_
              · show (if m1 then 846 - cwt N n T1 else 0)<(if true then 846 - cwt N n T0 else 0)
                cases m1<;>simp only [if_true,Bool.false_eq_true,if_false] at hw1 ⊢<;>omega
              · (simp (disch:=first|omega|(simp only [vlen];first|done|omega)) only [Fits_u,Fits_m,Fits_nil,List.length_append,vct,hN,↓vAq,vBq,↓reduceIte,Nat.reduceBEq,Nat.reduceEqDiff,Nat.reduceLT,Nat.reduceLeDiff,Nat.reduceAdd,Nat.reduceMul,Nat.reduceSub,reduceCtorEq,Int.reduceToNat]<;>(repeat' first|rfl|apply And.intro))
                all_goals first|rfl|skip
end Go.Proofs.Ytcclchnbjpncdaa

namespace Go.Proofs.Ytcclchnbjpncdaa
open Go.Dm
theorem ov_one {g:Grammar} {w:List Int} {t:Nat→Nat→Nat→Bool} {x:Int} {i j:Nat} (h:i≤j):ovB g w t [x] i j=oneB g w t x i j:=by
  rw [Bool.eq_iff_iff,ovB_cons]
  constructor
  · rintro ⟨m,h1,h2,h3,h4⟩
    have:m=j:=by simpa [ovB] using h4
    subst this;exact h3
  · intro h3;exact ⟨j,h,Nat.le_refl _,h3,by simp [ovB]⟩
theorem tab_bit {g:Grammar} {w:List Int} {T:Nat→Nat→Nat→Bool} (h:∀ l i j,i≤w.length→(ovB g w T l i j=true ↔ Der g w l i j)) {a i j:Nat} (hi:i≤j) (hj:j≤w.length):T a i j=true ↔ Der g w [g.k+a] i j:=by
  rw [← h [g.k+a] i j (by omega),ov_one hi]
  unfold oneB
  rw [if_neg (by omega),show (g.k+(a:Int) - g.k).toNat=a by omega]
set_option maxRecDepth 10000 in
set_option maxHeartbeats 4000000 in
theorem takesW_spec (g:Grammar) (w:List Int) (hc:CV g w):Dm.Spec Try.prog 6 [.ag (graD g),.sl 1 (i64s w)] (fun d => ∃ b,d=.v (.bool b)∧(b=true ↔ Der g w [g.k+g.start] 0 w.length)):=by
  refine spec_of_vc mixed Try.func6 c6 (by rw [show Try.f6.ntmps=_ from Try.ntmps6];simp) ?_
  unfold m6 r6
  have hk:=hc.v.k
  have hn:=hc.v.n
  have hst:=hc.v.start
  have hwl:=hc.w
  obtain ⟨N,hN⟩ : ∃ N:Nat,g.n=N:=⟨g.n.toNat,by omega⟩
  obtain ⟨st,hste⟩ : ∃ st:Nat,g.start=st:=⟨g.start.toNat,by omega⟩
  repeat' first|((first|refine Br.dec ?_ ?_|refine Br.eqi ?_ ?_)<;>intro h<;>try (exfalso;omega))|(simp (disch:=first|omega|(simp only [vlen];first|done|omega)) only [vct,↓vAq,vBq,↓reduceIte,Nat.reduceBEq,Nat.reduceEqDiff,Nat.reduceLT,Nat.reduceLeDiff,Nat.reduceAdd,Nat.reduceMul,Nat.reduceSub,reduceCtorEq,Int.reduceToNat])|(refine Br.mk ?_ ?_<;>intro h)|(refine BrN.mk (fun h => ?_) ?_)|(refine AltVC.mk ?_ ?_)
  refine CallP.mk (table_spec g w hc N (w.length+1) hN rfl) ?_
  rintro _ ⟨T,rfl,hT⟩
  refine ⟨by simp,?_⟩
  have hb:=tab_bit hT (a:=st) (Nat.zero_le _) (Nat.le_refl w.length)
  rw [← hste] at hb
  have hbl:=@tbb_len (w.length+1) (fun j=>T st 0 j)
  repeat' first|((first|refine Br.dec ?_ ?_|refine Br.eqi ?_ ?_)<;>intro h<;>try (exfalso;omega))|(simp (disch:=first|omega|(simp only [vlen];first|done|omega)) only [vct,hste,↓vAq,vBq,↓reduceIte,Nat.reduceBEq,Nat.reduceEqDiff,Nat.reduceLT,Nat.reduceLeDiff,Nat.reduceAdd,Nat.reduceMul,Nat.reduceSub,reduceCtorEq,Int.reduceToNat])|(refine Br.mk ?_ ?_<;>intro h)|(refine BrN.mk (fun h => ?_) ?_)|(refine AltVC.mk ?_ ?_)
  exact fin_mk ⟨T st 0 w.length,rfl,by rw [← hste];exact hb⟩
end Go.Proofs.Ytcclchnbjpncdaa

namespace Go.Proofs.Ytcclchnbjpncdaa
open Go.Dm
set_option maxRecDepth 10000 in
set_option maxHeartbeats 4000000 in
theorem intsT_spec (a:List Int) (ha:a.length≤4294967296):Dm.Spec Try.prog 41 [.sl 1 (i64s a),.sl 1 (i64s a)] (·=.v (.bool true)):=by
  refine spec_of_vc mixed Try.func41 c41 (by rw [show Try.f41.ntmps=_ from Try.ntmps41];simp) ?_
  unfold m41 r41
  repeat' first|((first|refine Br.dec ?_ ?_|refine Br.eqi ?_ ?_)<;>intro h<;>try (exfalso;omega))|refine Z8 ?_|with_reducible exact trivial|(refine Br.mk ?_ ?_<;>intro h)|(refine BrN.mk (fun h => ?_) ?_)|(refine AltVC.mk ?_ ?_)
  refine LoopVC.mk (X:=Nat) (fun i=>[(5,iv .i64 i)]) (fun _=>[]) (fun i=>a.length - i) (fun i=>i≤a.length) 0 (Nat.zero_le _) ?_ ?_
  · (simp (disch:=first|omega|(simp only [vlen];first|done|omega)) only [Fits_u,Fits_m,Fits_nil,List.length_append,vmr,↓vAq,vBq,↓reduceIte,Nat.reduceBEq,Nat.reduceEqDiff,Nat.reduceLT,Nat.reduceLeDiff,Nat.reduceAdd,Nat.reduceMul,Nat.reduceSub,reduceCtorEq,Int.reduceToNat]<;>(repeat' first|rfl|apply And.intro))
  · intro i hi
    by_cases h:i<a.length
    · repeat' first|((first|refine Br.dec ?_ ?_|refine Br.eqi ?_ ?_)<;>intro h<;>try (exfalso;omega))|refine Z8 ?_|with_reducible exact trivial|(refine Br.mk ?_ ?_<;>intro h)|(refine BrN.mk (fun h => ?_) ?_)|(refine AltVC.mk ?_ ?_)
      exact loopK.mk (i+1) Y0 (by omega) (by omega) Y29
    · repeat' first|((first|refine Br.dec ?_ ?_|refine Br.eqi ?_ ?_)<;>intro h<;>try (exfalso;omega))|refine Z8 ?_|with_reducible exact trivial|(refine Br.mk ?_ ?_<;>intro h)|(refine BrN.mk (fun h => ?_) ?_)|(refine AltVC.mk ?_ ?_)
      exact fin_mk rfl
set_option maxRecDepth 10000 in
set_option maxHeartbeats 4000000 in
theorem listsT_spec (a:List (List Int)) (ha:a.length≤4294967296) (ha':∀ l,l ∈ a→l.length≤4294967296):Dm.Spec Try.prog 24 [.sl 1 (rows i64s a),.sl 1 (rows i64s a)] (·=.v (.bool true)):=by
  refine spec_of_vc mixed Try.func24 c24 (by rw [show Try.f24.ntmps=_ from Try.ntmps24];simp) ?_
  unfold m24 r24
  repeat' first|((first|refine Br.dec ?_ ?_|refine Br.eqi ?_ ?_)<;>intro h<;>try (exfalso;omega))|refine Z8 ?_|with_reducible exact trivial|(refine Br.mk ?_ ?_<;>intro h)|(refine BrN.mk (fun h => ?_) ?_)|(refine AltVC.mk ?_ ?_)
  refine LoopVC.mk (X:=Nat) (fun i=>[(5,iv .i64 i)]) (fun _=>[]) (fun i=>a.length - i) (fun i=>i≤a.length) 0 (Nat.zero_le _) ?_ ?_
  · (simp (disch:=first|omega|(simp only [vlen];first|done|omega)) only [Fits_u,Fits_m,Fits_nil,List.length_append,vmr,↓vAq,vBq,↓reduceIte,Nat.reduceBEq,Nat.reduceEqDiff,Nat.reduceLT,Nat.reduceLeDiff,Nat.reduceAdd,Nat.reduceMul,Nat.reduceSub,reduceCtorEq,Int.reduceToNat]<;>(repeat' first|rfl|apply And.intro))
  · intro i hi
    by_cases h:i<a.length
    · have hI:=intsT_spec _ (ha' _ (getD_mem' (l:=a) (i:=i) h))
      repeat' first|((first|refine Br.dec ?_ ?_|refine Br.eqi ?_ ?_)<;>intro h<;>try (exfalso;omega))|refine Z8 ?_|with_reducible exact trivial|(refine Br.mk ?_ ?_<;>intro h)|(refine BrN.mk (fun h => ?_) ?_)|(refine AltVC.mk ?_ ?_)
      refine CallVC.eq hI ?_
      repeat' first|((first|refine Br.dec ?_ ?_|refine Br.eqi ?_ ?_)<;>intro h<;>try (exfalso;omega))|refine Z8 ?_|with_reducible exact trivial|(refine Br.mk ?_ ?_<;>intro h)|(refine BrN.mk (fun h => ?_) ?_)|(refine AltVC.mk ?_ ?_)
      exact loopK.mk (i+1) Y0 (by omega) (by omega) Y29
    · repeat' first|((first|refine Br.dec ?_ ?_|refine Br.eqi ?_ ?_)<;>intro h<;>try (exfalso;omega))|refine Z8 ?_|with_reducible exact trivial|(refine Br.mk ?_ ?_<;>intro h)|(refine BrN.mk (fun h => ?_) ?_)|(refine AltVC.mk ?_ ?_)
      exact fin_mk rfl
set_option maxRecDepth 10000 in
set_option maxHeartbeats 4000000 in
theorem sameT_nil (z:Unit):Dm.Spec Try.prog 8 [.ag [.nl,iv .i64 0],.ag [.nl,iv .i64 0]] (·=.v (.bool true)):=by
  refine spec_of_vc mixed Try.func8 c8 (by rw [show Try.f8.ntmps=_ from Try.ntmps8];simp) ?_
  unfold m8 r8
  repeat' first|((first|refine Br.dec ?_ ?_|refine Br.eqi ?_ ?_)<;>intro h<;>try (exfalso;omega))|refine Z8 ?_|with_reducible exact trivial|(refine Br.mk ?_ ?_<;>intro h)|(refine BrN.mk (fun h => ?_) ?_)|(refine AltVC.mk ?_ ?_)
  refine LoopVC.mk (X:=Unit) (fun i=>[(5,iv .i64 0)]) (fun _=>[(0,⟨2,[[.nl,iv .i64 0]],true,false,.fix⟩),(1,⟨2,[[.nl,iv .i64 0]],true,false,.fix⟩)]) (fun i=>0) (fun i=>True) () trivial ?_ ?_
  · (simp (disch:=first|omega|(simp only [vlen];first|done|omega)) only [Fits_u,Fits_m,Fits_nil,List.length_append,vmr,↓vAq,vBq,↓reduceIte,Nat.reduceBEq,Nat.reduceEqDiff,Nat.reduceLT,Nat.reduceLeDiff,Nat.reduceAdd,Nat.reduceMul,Nat.reduceSub,reduceCtorEq,Int.reduceToNat]<;>(repeat' first|rfl|apply And.intro))
  · intro i h1
    repeat' first|((first|refine Br.dec ?_ ?_|refine Br.eqi ?_ ?_)<;>intro h<;>try (exfalso;omega))|refine Z8 ?_|with_reducible exact trivial|(refine Br.mk ?_ ?_<;>intro h)|(refine BrN.mk (fun h => ?_) ?_)|(refine AltVC.mk ?_ ?_)
    exact fin_mk rfl
set_option maxRecDepth 10000 in
set_option maxHeartbeats 4000000 in
theorem sameT_spec (t:Dm.Thicket) (hl:t.spots.length≤4294967296) (hw:∀ s,s ∈ t.spots→s.ways.length≤4294967296∧∀ w,w ∈ s.ways→w.length≤4294967296):Dm.Spec Try.prog 8 [.ag (thiD t),.ag (thiD t)] (·=.v (.bool true)):=by
  refine spec_of_vc mixed Try.func8 c8 (by rw [show Try.f8.ntmps=_ from Try.ntmps8];simp) ?_
  unfold m8 r8
  repeat' first|((first|refine Br.dec ?_ ?_|refine Br.eqi ?_ ?_)<;>intro h<;>try (exfalso;omega))|refine Z8 ?_|with_reducible exact trivial|(refine Br.mk ?_ ?_<;>intro h)|(refine BrN.mk (fun h => ?_) ?_)|(refine AltVC.mk ?_ ?_)
  refine LoopVC.mk (X:=Nat) (fun i=>[(5,iv .i64 i)]) (fun _=>[(0,⟨2,[thiD t],true,false,.fix⟩),(1,⟨2,[thiD t],true,false,.fix⟩)]) (fun i=>t.spots.length - i) (fun i=>i≤t.spots.length) 0 (Nat.zero_le _) ?_ ?_
  · (simp (disch:=first|omega|(simp only [vlen];first|done|omega)) only [Fits_u,Fits_m,Fits_nil,List.length_append,vmr,↓vAq,vBq,↓reduceIte,Nat.reduceBEq,Nat.reduceEqDiff,Nat.reduceLT,Nat.reduceLeDiff,Nat.reduceAdd,Nat.reduceMul,Nat.reduceSub,reduceCtorEq,Int.reduceToNat]<;>(repeat' first|rfl|apply And.intro))
    all_goals first|rfl|skip
  · intro i hi
    by_cases h:i<t.spots.length
    · have hm:=hw _ (getD_mem' (l:=t.spots) (i:=i) h)
      have hL:=listsT_spec _ hm.1 hm.2
      repeat' first|((first|refine Br.dec ?_ ?_|refine Br.eqi ?_ ?_)<;>intro h<;>try (exfalso;omega))|refine Z8 ?_|with_reducible exact trivial|(refine Br.mk ?_ ?_<;>intro h)|(refine BrN.mk (fun h => ?_) ?_)|(refine AltVC.mk ?_ ?_)
      refine CallVC.eq hL ?_
      repeat' first|((first|refine Br.dec ?_ ?_|refine Br.eqi ?_ ?_)<;>intro h<;>try (exfalso;omega))|refine Z8 ?_|with_reducible exact trivial|(refine Br.mk ?_ ?_<;>intro h)|(refine BrN.mk (fun h => ?_) ?_)|(refine AltVC.mk ?_ ?_)
      refine loopK.mk (i+1) Y0 (by omega) (by omega) ?_
      (simp (disch:=first|omega|(simp only [vlen];first|done|omega)) only [Fits_u,Fits_m,Fits_nil,List.length_append,vmr,↓vAq,vBq,↓reduceIte,Nat.reduceBEq,Nat.reduceEqDiff,Nat.reduceLT,Nat.reduceLeDiff,Nat.reduceAdd,Nat.reduceMul,Nat.reduceSub,reduceCtorEq,Int.reduceToNat]<;>(repeat' first|rfl|apply And.intro))
      all_goals first|rfl|skip
    · repeat' first|((first|refine Br.dec ?_ ?_|refine Br.eqi ?_ ?_)<;>intro h<;>try (exfalso;omega))|refine Z8 ?_|with_reducible exact trivial|(refine Br.mk ?_ ?_<;>intro h)|(refine BrN.mk (fun h => ?_) ?_)|(refine AltVC.mk ?_ ?_)
      exact fin_mk rfl
end Go.Proofs.Ytcclchnbjpncdaa

namespace Go.Proofs.Ytcclchnbjpncdaa
open Go.Dm
theorem thi_same {g:Grammar} {w:List Int} (hc:CC g w) {Wk:List St} {r:St} (hr:OkS g w r) (h:Clos g w r Wk):Dm.Spec Try.prog 8 [.ag (thiD (thiT g w (srtS Wk) r)),.ag (thiD (thiT g w (srtS Wk) r))] (·=.v (.bool true)):=by
  have hfew:=spots_few hc h.nd fun s hs=>TRc.ok hc hr (h.sd s hs)
  refine sameT_spec _ ?_ fun s hs => ?_
  · show ((srtS Wk).map (spotT g w (srtS Wk))).length≤_
    rw [List.length_map,srtS_perm.length_eq];omega
  · obtain ⟨p,hp,rfl⟩:=List.mem_map.1 (show s ∈ (srtS Wk).map (spotT g w (srtS Wk)) from hs)
    have hpo:=TRc.ok hc hr (h.sd _ (srtS_perm.mem_iff.1 hp))
    have h1:=kwS_len hc hpo
    refine ⟨?_,fun l hl => ?_⟩
    · show (srtW ((kwS g w p).map (wayN (srtS Wk)))).length≤_
      rw [srtW_perm.length_eq,List.length_map];omega
    · have hl:l ∈ srtW ((kwS g w p).map (wayN (srtS Wk))):=hl
      obtain ⟨x,hx,rfl⟩:=List.mem_map.1 (srtW_perm.mem_iff.1 hl)
      have:=kw_len hc hx
      rw [wayN_len];omega
set_option maxRecDepth 10000 in
set_option maxHeartbeats 4000000 in
theorem thicketBuilds_spec (g : Dm.Grammar) (hg : g.ok) (w : List Int) (hw : okL ok64 w) : Dm.Spec Try.prog 3 [.ag (graD g), .sl 1 (i64s w)] (· = .v (.bool true)) := by
  refine spec_of_vc mixed Try.func3 c3 (by rw [show Try.f3.ntmps=_ from Try.ntmps3];simp) ?_
  unfold m3 r3
  have hwl:w.length≤9223372036854775807:=maxLen_le hw.1
  have hbu:=build_spec g hg w hwl
  have htc:=treesCheck_spec g hg w hwl
  have hsn:=sameT_nil ()
  repeat' first|((first|refine Br.dec ?_ ?_|refine Br.eqi ?_ ?_)<;>intro h<;>try (exfalso;omega))|refine Z0 ?_|with_reducible exact trivial|(refine Br.mk ?_ ?_<;>intro h)|(refine BrN.mk (fun h => ?_) ?_)|(refine AltVC.mk ?_ ?_)
  refine CallVC.mk hbu ?_
  rintro d ⟨h1,h2,h3⟩
  by_cases h0:tcode g w=0
  · obtain ⟨hc,_,_,_⟩:=cc_of h0
    have hst:=hc.v.start
    have hroot:OkS g w (rtS g w):=⟨Nat.zero_le _,Nat.le_refl _,by have:=hc.v.k;show 0≤g.k+g.start;omega,by show g.k+g.start<g.k+g.n;omega⟩
    have htk:=takesW_spec g w ⟨hc.v,hc.w⟩
    have hder:=tr_der hc.p (w:=w) (x:=g.k+g.start) (Nat.zero_le w.length) (Nat.le_refl _)
    rw [h0] at htc
    by_cases hz:trN g w=0
    · have hd:=h2 h0 hz
      subst hd
      repeat' first|((first|refine Br.dec ?_ ?_|refine Br.eqi ?_ ?_)<;>intro h<;>try (exfalso;omega))|refine Z0 ?_|with_reducible exact trivial|(refine Br.mk ?_ ?_<;>intro h)|(refine BrN.mk (fun h => ?_) ?_)|(refine AltVC.mk ?_ ?_)
      refine CallVC.eq htc ?_
      repeat' first|((first|refine Br.dec ?_ ?_|refine Br.eqi ?_ ?_)<;>intro h<;>try (exfalso;omega))|refine Z0 ?_|with_reducible exact trivial|(refine Br.mk ?_ ?_<;>intro h)|(refine BrN.mk (fun h => ?_) ?_)|(refine AltVC.mk ?_ ?_)
      refine CallVC.mk htk ?_
      rintro _ ⟨b,rfl,hb⟩
      have hbf:b=false:=by
        cases b with
        | false=>rfl
        | true=>exact absurd hz (hder.2 (hb.1 rfl))
      subst hbf
      repeat' first|((first|refine Br.dec ?_ ?_|refine Br.eqi ?_ ?_)<;>intro h<;>try (exfalso;omega))|refine Z0 ?_|with_reducible exact trivial|(refine Br.mk ?_ ?_<;>intro h)|(refine BrN.mk (fun h => ?_) ?_)|(refine AltVC.mk ?_ ?_)
      refine CallVC.eq hsn ?_
      repeat' first|((first|refine Br.dec ?_ ?_|refine Br.eqi ?_ ?_)<;>intro h<;>try (exfalso;omega))|refine Z0 ?_|with_reducible exact trivial|(refine Br.mk ?_ ?_<;>intro h)|(refine BrN.mk (fun h => ?_) ?_)|(refine AltVC.mk ?_ ?_)
      exact fin_mk rfl
    · obtain ⟨Wk,hC,hd⟩:=h3 h0 hz
      subst hd
      have hrt:=rthicket_spec g w hc
      have hsame:=thi_same hc hroot hC
      by_cases h200:200<Wk.length
      · rw [show foD g w Wk (rtS g w)=.tu [.ag [.nl,iv .i64 0],iv .i64 1] from if_pos h200]
        repeat' first|((first|refine Br.dec ?_ ?_|refine Br.eqi ?_ ?_)<;>intro h<;>try (exfalso;omega))|refine Z0 ?_|with_reducible exact trivial|(refine Br.mk ?_ ?_<;>intro h)|(refine BrN.mk (fun h => ?_) ?_)|(refine AltVC.mk ?_ ?_)
        refine CallVC.eq htc ?_
        repeat' first|((first|refine Br.dec ?_ ?_|refine Br.eqi ?_ ?_)<;>intro h<;>try (exfalso;omega))|refine Z0 ?_|with_reducible exact trivial|(refine Br.mk ?_ ?_<;>intro h)|(refine BrN.mk (fun h => ?_) ?_)|(refine AltVC.mk ?_ ?_)
        refine CallVC.mk htk ?_
        rintro _ ⟨b,rfl,hb⟩
        have hbf:b=true:=hb.2 (hder.1 hz)
        subst hbf
        repeat' first|((first|refine Br.dec ?_ ?_|refine Br.eqi ?_ ?_)<;>intro h<;>try (exfalso;omega))|refine Z0 ?_|with_reducible exact trivial|(refine Br.mk ?_ ?_<;>intro h)|(refine BrN.mk (fun h => ?_) ?_)|(refine AltVC.mk ?_ ?_)
        refine CallVC.mk hrt ?_
        rintro _ ⟨⟨W2,hC2,rfl⟩⟩
        have hp:=Clos.perm hC hC2
        rw [if_pos (show 200<W2.length by rw [← hp.length_eq];exact h200)]
        repeat' first|((first|refine Br.dec ?_ ?_|refine Br.eqi ?_ ?_)<;>intro h<;>try (exfalso;omega))|refine Z0 ?_|with_reducible exact trivial|(refine Br.mk ?_ ?_<;>intro h)|(refine BrN.mk (fun h => ?_) ?_)|(refine AltVC.mk ?_ ?_)
        refine CallVC.eq hsn ?_
        repeat' first|((first|refine Br.dec ?_ ?_|refine Br.eqi ?_ ?_)<;>intro h<;>try (exfalso;omega))|refine Z0 ?_|with_reducible exact trivial|(refine Br.mk ?_ ?_<;>intro h)|(refine BrN.mk (fun h => ?_) ?_)|(refine AltVC.mk ?_ ?_)
        exact fin_mk rfl
      · rw [show foD g w Wk (rtS g w)=.tu [.ag (thiD (thiT g w (srtS Wk) (rtS g w))),iv .i64 0] from if_neg h200]
        repeat' first|((first|refine Br.dec ?_ ?_|refine Br.eqi ?_ ?_)<;>intro h<;>try (exfalso;omega))|refine Z0 ?_|with_reducible exact trivial|(refine Br.mk ?_ ?_<;>intro h)|(refine BrN.mk (fun h => ?_) ?_)|(refine AltVC.mk ?_ ?_)
        refine CallVC.eq htc ?_
        repeat' first|((first|refine Br.dec ?_ ?_|refine Br.eqi ?_ ?_)<;>intro h<;>try (exfalso;omega))|refine Z0 ?_|with_reducible exact trivial|(refine Br.mk ?_ ?_<;>intro h)|(refine BrN.mk (fun h => ?_) ?_)|(refine AltVC.mk ?_ ?_)
        refine CallVC.mk htk ?_
        rintro _ ⟨b,rfl,hb⟩
        have hbf:b=true:=hb.2 (hder.1 hz)
        subst hbf
        repeat' first|((first|refine Br.dec ?_ ?_|refine Br.eqi ?_ ?_)<;>intro h<;>try (exfalso;omega))|refine Z0 ?_|with_reducible exact trivial|(refine Br.mk ?_ ?_<;>intro h)|(refine BrN.mk (fun h => ?_) ?_)|(refine AltVC.mk ?_ ?_)
        refine CallVC.mk hrt ?_
        rintro _ ⟨⟨W2,hC2,rfl⟩⟩
        have hp:=Clos.perm hC hC2
        rw [if_neg (show ¬ 200<W2.length by rw [← hp.length_eq];exact h200),show srtS W2=srtS Wk from srtS_eq hC.nd hp.symm]
        repeat' first|((first|refine Br.dec ?_ ?_|refine Br.eqi ?_ ?_)<;>intro h<;>try (exfalso;omega))|refine Z0 ?_|with_reducible exact trivial|(refine Br.mk ?_ ?_<;>intro h)|(refine BrN.mk (fun h => ?_) ?_)|(refine AltVC.mk ?_ ?_)
        refine CallVC.eq hsame ?_
        repeat' first|((first|refine Br.dec ?_ ?_|refine Br.eqi ?_ ?_)<;>intro h<;>try (exfalso;omega))|refine Z0 ?_|with_reducible exact trivial|(refine Br.mk ?_ ?_<;>intro h)|(refine BrN.mk (fun h => ?_) ?_)|(refine AltVC.mk ?_ ?_)
        exact fin_mk rfl
  · have hd:=h1 h0
    subst hd
    repeat' first|((first|refine Br.dec ?_ ?_|refine Br.eqi ?_ ?_)<;>intro h<;>try (exfalso;omega))|refine Z0 ?_|with_reducible exact trivial|(refine Br.mk ?_ ?_<;>intro h)|(refine BrN.mk (fun h => ?_) ?_)|(refine AltVC.mk ?_ ?_)
    refine CallVC.eq htc ?_
    repeat' first|((first|refine Br.dec ?_ ?_|refine Br.eqi ?_ ?_)<;>intro h<;>try (exfalso;omega))|refine Z0 ?_|with_reducible exact trivial|(refine Br.mk ?_ ?_<;>intro h)|(refine BrN.mk (fun h => ?_) ?_)|(refine AltVC.mk ?_ ?_)
    refine CallVC.eq hsn ?_
    repeat' first|((first|refine Br.dec ?_ ?_|refine Br.eqi ?_ ?_)<;>intro h<;>try (exfalso;omega))|refine Z0 ?_|with_reducible exact trivial|(refine Br.mk ?_ ?_<;>intro h)|(refine BrN.mk (fun h => ?_) ?_)|(refine AltVC.mk ?_ ?_)
    exact fin_mk rfl
end Go.Proofs.Ytcclchnbjpncdaa
