/-
 Texts of this claim, one behind another.
-/
import Derived.Test.YtjekkbpdgnohcaaDmD
import Derived.Test.YtjekkbpdgnohcaaMg9
import Derived.OrdersIn
import Derived.RangeFuncSeq
import Derived.Test.YtjekkbpdgnohcaaMg11
import Derived.Test.YtjekkbpdgnohcaaCode
import Derived.RangeFuncBox
import Derived.RangeFuncLeaves
import Derived.Shelf.Abstract
import Derived.WalkKit
import Derived.OwnWalkIn
import Derived.TacticsInMore
import Derived.LoopNIn
import Derived.LoopIn
import Derived.Test.YtjekkbpdgnohcaaMg13
set_option linter.unusedSimpArgs false
set_option linter.unusedVariables false
set_option linter.unnecessarySimpa false
namespace Go.Dm
open Go.RowKit
section
variable {P:Program} {ops:Array Oper} {m:Nat}
structure PreOk (ops:Array Oper) (m:Nat):Prop where
  size:ops.size=m+2
  nod:∀ o,o ∈ ops.toList→∀ c,o.op ≠ .defer c
  gua:∀ o,o ∈ ops.toList→o.guard=none
  back:∀ i k,i<m+2→wt ops i k=true→k<i
  up:∀ i,i<m → ∃ j,i<j∧j≤m∧wt ops j i=true
  top:wt ops (m+1) m=true
def preB (ops:Array Oper) (m:Nat):Bool :=
  decide (ops.size=m+2) && ops.toList.all (fun o=>(match o.op with|.defer _=>false|_=>true) && o.guard.isNone) &&
  (List.range (m+2)).all (fun i=>match ops[i]? with|some o=>o.after.toList.all fun e => !Region.binds .any e || decide (e.on<i)|none=>true) &&
  (List.range m).all (fun i=>(List.range (m+1)).any fun j=>decide (i<j) && wt ops j i) && wt ops (m+1) m
theorem preB_ok (h:preB ops m=true):PreOk ops m:=by
  simp only [preB,Bool.and_eq_true,decide_eq_true_eq,List.all_eq_true] at h
  obtain ⟨⟨⟨⟨h1,h2⟩,h3⟩,h4⟩,h5⟩:=h
  refine ⟨h1,fun o ho c e => ?_,fun o ho=>by simpa using (h2 o ho).2,fun i k hi hw => ?_,fun i hi => ?_,h5⟩
  · have:=(h2 o ho).1
    rw [e] at this;cases this
  · have hk:=h3 i (List.mem_range.2 hi)
    unfold wt at hw
    split at hw
    · next oj hj =>
      rw [hj] at hk
      simp only [List.all_eq_true] at hk
      obtain ⟨e,he,hb⟩:=Array.any_eq_true'.1 hw
      simp only [Bool.and_eq_true,beq_iff_eq] at hb
      have:=hk e (by simpa using he)
      simp only [hb.1,Bool.not_true,Bool.false_or,decide_eq_true_eq] at this
      rw [← hb.2];exact this
    · cases hw
  · have:=h4 i (List.mem_range.2 hi)
    simp only [List.any_eq_true,List.mem_range,Bool.and_eq_true,decide_eq_true_eq] at this
    obtain ⟨j,h1,h2,h3⟩:=this
    exact ⟨j,h2,by omega,h3⟩
theorem take_get {i:Nat} (h:i<m) (hs:ops.size=m+2):(ops.take m)[i]?=ops[i]?:=by
  simp only [Array.take_eq_extract,Array.getElem?_extract]
  rw [if_pos (by omega),Nat.zero_add]
theorem pre_all (hp:PreOk ops m) {listed:Array Bool} (hc:Closed ops listed) (hm:Rdy ops listed m):∀ n i,m - i≤n→i<m→listed.getD i false=true
  | 0,i,h,hi=>by omega
  | n+1,i,h,hi=>by
    obtain ⟨j,h1,h2,h3⟩:=hp.up i hi
    by_cases e:j=m
    · subst e;exact hm i h3
    · exact hc.rdy j (pre_all hp hc hm n j (by omega) (by omega)) i h3
theorem set_getB {l:Array Bool} {i j:Nat} {d:Bool} (h:i<l.size):(l.setIfInBounds i true).getD j d=if i=j then true else l.getD j d:=by
  simp only [Array.getD_eq_getD_getElem?,Array.getElem?_setIfInBounds]
  by_cases e:i=j
  · subst e;simp [h]
  · rw [if_neg e,if_neg e]
theorem wt_pre {i k:Nat} (hi:i<m) (hs:ops.size=m+2):wt (ops.take m) i k=wt ops i k:=by
  unfold wt;rw [take_get hi hs]
theorem rdy_ready {listed:Array Bool} {i:Nat} (hi:i<ops.size) (h0:listed.getD i true=false) (h:Rdy ops listed i):i ∈ Region.ready .any ops listed:=by
  obtain ⟨o,ho⟩ : ∃ o,ops[i]?=some o:=⟨ops[i],Array.getElem?_eq_getElem hi⟩
  exact mem_ready.2 ⟨h0,o,ho,fun e he hb=>h e.on ((wt_spec ho).2 ⟨e,he,hb,rfl⟩)⟩
theorem ready_rdy {listed:Array Bool} {i:Nat} (h:i ∈ Region.ready .any ops listed):i<ops.size∧listed.getD i true=false∧Rdy ops listed i:=by
  obtain ⟨h0,o,ho,ha⟩:=mem_ready.1 h
  refine ⟨(Array.getElem?_eq_some_iff.1 ho).1,h0,fun k hk => ?_⟩
  obtain ⟨e,he,hb,rfl⟩:=(wt_spec ho).1 hk
  exact ha e he hb
theorem Closed.set (hp:PreOk ops m) {listed:Array Bool} (hc:Closed ops listed) {i:Nat} (hi:i<ops.size) (hr:Rdy ops listed i):Closed ops (listed.setIfInBounds i true):=by
  have hi':i<listed.size:=by rw [hc.size];exact hi
  refine ⟨by simp [hc.size],fun k hk j hj => ?_⟩
  rw [set_getB hi'] at hk ⊢
  by_cases e:i=j
  · rw [if_pos e]
  · rw [if_neg e]
    by_cases e2:i=k
    · subst e2;exact hr j hj
    · rw [if_neg e2] at hk;exact hc.rdy k hk j hj
theorem getB_eq {l:Array Bool} {i:Nat} (h:i<l.size):l.getD i true=l.getD i false:=by simp [Array.getD,h]
theorem wanted_noneY {o:Oper} {y:Nat→Option Bool} (h:o.guard=none):Region.wanted o y=true:=by unfold Region.wanted;rw [h]
theorem any_pre (hp : PreOk ops m) {Q Q' : Exit → Act → World → Prop} (hQ : ¬ LetsOut Q') (hpan : ∀ c a w, Q' (.panic c) a w → Q (.panic c) a w)
    (hrest:∀ a w,Q' .normal a w→wpOpIn (FR none) 0 P ops Q m (wpOpIn (FR none) 0 P ops Q (m+1) (fun a w=>Q .normal a w)) a w) :
    ∀ (fuel:Nat) (listed lp:Array Bool) (a:Act) (w:World),Closed ops listed→lp.size=m→(∀ i,i<m→lp.getD i false=listed.getD i false)→listed.getD m false=false→listed.getD (m+1) false=false →
      wpAny P .any (ops.take m) Q' fuel lp a w→wpAnyIn (FR none) 0 P .any ops Q (fuel+2) listed a w:=by
  have hsz:=hp.size
  have htk:(ops.take m).size=m:=by simp [hsz]
  -- m is about to come: all others have come
  have last:∀ (listed lp:Array Bool) (a:Act) (w:World),Closed ops listed→lp.size=m→(∀ i,i<m→lp.getD i false=listed.getD i false)→(∀ i,i<m→listed.getD i false=true)→listed.getD m false=false→listed.getD (m+1) false=false →
      Q' .normal a w→∀ g,wpAnyIn (FR none) 0 P .any ops Q (g+2) listed a w:=by
    intro listed lp a w hc hls hl hall hm hm1 hq g
    have hls':listed.size=m+2:=by rw [hc.size,hsz]
    have hrm:Rdy ops listed m:=fun k hk=>hall k (hp.back m k (by omega) hk)
    have hin:∀ i,i ∈ Region.ready .any ops listed→i=m:=fun i hi=>by
      obtain ⟨h1,h2,h3⟩:=ready_rdy hi
      rw [getB_eq (by omega)] at h2
      by_cases e:i<m
      · rw [hall i e] at h2;cases h2
      · by_cases e2:i=m
        · exact e2
        · have:i=m+1:=by omega
          subst this
          have:=h3 m hp.top
          rw [hm] at this;cases this
    have hmr:m ∈ Region.ready .any ops listed:=rdy_ready (by omega) (by rw [getB_eq (by omega)];exact hm) hrm
    refine ⟨fun h=>(by rw [h] at hmr;cases hmr),fun i hi => ?_⟩
    rw [hin i hi]
    refine wpOpIn_mono (fun a' w' h' => ?_) (hrest a w hq)
    have hm':m<listed.size:=by omega
    have hin2:∀ i,i ∈ Region.ready .any ops (listed.setIfInBounds m true)→i=m+1:=fun i hi=>by
      obtain ⟨h1,h2,h3⟩:=ready_rdy hi
      rw [set_getB hm'] at h2
      by_cases e:m=i
      · rw [if_pos e] at h2;cases h2
      · rw [if_neg e,getB_eq (by omega)] at h2
        by_cases e2:i<m
        · rw [hall i e2] at h2;cases h2
        · omega
    have hr1:Rdy ops (listed.setIfInBounds m true) (m+1):=fun k hk=>by
      have:=hp.back (m+1) k (by omega) hk
      rw [set_getB hm']
      by_cases e:m=k
      · rw [if_pos e]
      · rw [if_neg e];exact hall k (by omega)
    have hmr2:(m+1) ∈ Region.ready .any ops (listed.setIfInBounds m true):=rdy_ready (by omega) (by rw [set_getB hm',if_neg (by omega),getB_eq (by omega)];exact hm1) hr1
    refine ⟨fun h=>(by rw [h] at hmr2;cases hmr2),fun i hi => ?_⟩
    rw [hin2 i hi]
    refine wpOpIn_mono (fun a2 w2 h2 => ?_) h'
    refine wpAnyIn_done ?_ h2 g
    apply List.eq_nil_iff_forall_not_mem.2
    intro i hi
    obtain ⟨h1,h3,h4⟩:=ready_rdy hi
    rw [set_getB (by simp;omega),set_getB hm'] at h3
    by_cases e:m+1=i
    · rw [if_pos e] at h3;cases h3
    · rw [if_neg e] at h3
      by_cases e2:m=i
      · rw [if_pos e2] at h3;cases h3
      · rw [if_neg e2,getB_eq (by omega),hall i (by omega)] at h3;cases h3
  intro fuel
  induction fuel with
  | zero =>
    intro listed lp a w hc hls hl hm hm1 h
    obtain ⟨h0,hq⟩:=h
    have hall:∀ i,i<m→listed.getD i false=true:=by
      intro i
      induction i using Nat.strongRecOn with
      | _ i ih =>
        intro hi
        cases hb:listed.getD i false with
        | true=>rfl
        | false =>
          have:i ∈ Region.ready .any (ops.take m) lp:=rdy_ready (by omega) (by rw [getB_eq (by omega),hl i hi];exact hb) fun k hk=>by
            rw [wt_pre hi hsz] at hk
            have:=hp.back i k (by omega) hk
            rw [hl k (by omega)];exact ih k this (by omega)
          rw [h0] at this;cases this
    exact last listed lp a w hc hls hl hall hm hm1 hq 0
  | succ fuel ih =>
    intro listed lp a w hc hls hl hm hm1 h
    have hls':listed.size=m+2:=by rw [hc.size,hsz]
    by_cases hall:∀ i,i<m→listed.getD i false=true
    · have h0:Region.ready .any (ops.take m) lp=[]:=by
        apply List.eq_nil_iff_forall_not_mem.2
        intro i hi
        obtain ⟨h1,h2,h3⟩:=ready_rdy hi
        rw [getB_eq (by omega),hl i (by omega),hall i (by omega)] at h2;cases h2
      exact last listed lp a w hc hls hl hall hm hm1 (h.1 h0) _
    · have hnm:¬ Rdy ops listed m:=fun hr=>hall fun i hi=>pre_all hp hc hr m i (by omega) hi
      have hne : ∃ i,i ∈ Region.ready .any ops listed:=by
        have : ∃ i,i<m∧listed.getD i false=false:=by
          apply Classical.byContradiction
          intro hn
          refine hall fun i hi => ?_
          cases hb:listed.getD i false with
          | true=>rfl
          | false=>exact absurd ⟨i,hi,hb⟩ hn
        obtain ⟨i,hi,hb⟩:=this
        have least:∀ n i,i≤n→i<m→listed.getD i false=false → ∃ j,j ∈ Region.ready .any ops listed:=by
          intro n
          induction n with
          | zero =>
            intro i hin hi hb
            refine ⟨i,rdy_ready (by omega) (by rw [getB_eq (by omega)];exact hb) fun k hk => ?_⟩
            have:=hp.back i k (by omega) hk
            omega
          | succ n ihn =>
            intro i hin hi hb
            by_cases hx : ∃ k,wt ops i k=true∧listed.getD k false=false
            · obtain ⟨k,hk,hkb⟩:=hx
              have:=hp.back i k (by omega) hk
              exact ihn k (by omega) (by omega) hkb
            · refine ⟨i,rdy_ready (by omega) (by rw [getB_eq (by omega)];exact hb) fun k hk => ?_⟩
              cases hkb:listed.getD k false with
              | true=>rfl
              | false=>exact absurd ⟨k,hk,hkb⟩ hx
        exact least i i (Nat.le_refl _) hi hb
      refine ⟨fun h0=>(by obtain ⟨i,hi⟩:=hne;rw [h0] at hi;cases hi),fun i hi => ?_⟩
      obtain ⟨h1,h2,h3⟩:=ready_rdy hi
      have him:i<m:=by
        by_cases e:i=m
        · subst e;exact absurd h3 hnm
        · by_cases e2:i=m+1
          · subst e2
            have:=h3 m hp.top
            rw [hm] at this;cases this
          · omega
      have hir:i ∈ Region.ready .any (ops.take m) lp:=rdy_ready (by omega) (by rw [getB_eq (by omega),hl i him,← getB_eq (by omega)];exact h2) fun k hk=>by
        rw [wt_pre him hsz] at hk
        rw [hl k (by have:=hp.back i k (by omega) hk;omega)];exact h3 k hk
      have hst:=h.2 i hir
      have hnext:∀ a' w',wpAny P .any (ops.take m) Q' fuel (lp.setIfInBounds i true) a' w'→wpAnyIn (FR none) 0 P .any ops Q (fuel+2) (listed.setIfInBounds i true) a' w':=fun a' w' h'=>by
        refine ih (listed.setIfInBounds i true) (lp.setIfInBounds i true) a' w' (hc.set hp h1 h3) (by simp [hls]) (fun j hj => ?_) ?_ ?_ h'
        · rw [set_getB (by omega),set_getB (by omega),hl j hj]
        · rw [set_getB (by omega),if_neg (by omega)];exact hm
        · rw [set_getB (by omega),if_neg (by omega)];exact hm1
      unfold wpOp at hst
      unfold wpOpIn
      rw [take_get him hsz] at hst
      obtain ⟨o,ho⟩ : ∃ o,ops[i]?=some o:=⟨ops[i],Array.getElem?_eq_getElem h1⟩
      have hmem:o ∈ ops.toList:=by simpa using Array.mem_of_getElem? ho
      rw [ho] at hst ⊢
      dsimp only at hst ⊢
      rw [if_pos (wanted_noneY (hp.gua o hmem))] at hst ⊢
      have:=op_in (r:=none) (hp.nod o hmem) hQ (hst.imp (Oper.wp_mono hnext) id)
      unfold Oper.wpIn at this ⊢
      refine ⟨this.1,?_⟩
      have h2:=this.2
      generalize (o.semAt (FR none).round a.eval).run P w=r at h2 ⊢
      cases r with
      | ok x w' =>
        cases x<;>simp only [Oper.uponIn] at h2 ⊢ <;>
          first
            | exact h2
            | exact ⟨h2.1,CallsIn.mono h2.2 (fun e w'' he=>by cases e<;>first|exact he|exact hpan _ _ _ he|exact absurd he hQ)⟩
            | exact ⟨h2.1,RowsIn.mono h2.2 (fun _ _ he=>he)⟩
            | exact ⟨h2.1,RoundIn.mono h2.2 (fun e w'' he=>by cases e<;>first|exact he|exact hpan _ _ _ he|exact absurd he hQ)⟩
      | halt x w' =>
        cases x<;>simp only [Oper.uponIn] at h2 ⊢<;>first|exact h2|exact hpan _ _ _ h2
theorem region_pre {id:Nat} (hmix:P.follows .mixedOrders=true) (hB:preB ops m=true) {Q Q':Exit→Act→World→Prop} (hQ:¬ LetsOut Q') (hpan:∀ c a w,Q' (.panic c) a w→Q (.panic c) a w)
    (hrest:∀ a w,Q' .normal a w→wpOpIn (FR none) 0 P ops Q m (wpOpIn (FR none) 0 P ops Q (m+1) (fun a w=>Q .normal a w)) a w) {a:Act} {w:World} (h:RegA P (ops.take m) true Q' a w):(Code.region id ops true).wpIn (FR none) 0 P Q a w:=by
  have hp:=preB_ok hB
  have hsz:=hp.size
  have hg:∀ n i:Nat,(Array.replicate n false).getD i false=false:=fun n i=>by
    simp only [Array.getD_eq_getD_getElem?,Array.getElem?_replicate];split<;>rfl
  have htk:(ops.take m).size=m:=by simp [hsz]
  refine wpIn_region_any hmix ?_
  rw [hsz]
  unfold RegA at h
  rw [if_pos rfl,htk] at h
  exact any_pre hp hQ hpan hrest m _ _ _ _ ⟨by simp [hsz],fun k hk=>by rw [hg] at hk;cases hk⟩ (by simp) (fun i _=>by rw [hg,hg]) (hg _ _) (hg _ _) h
theorem put_def {a:Act} {d:Option Nat} {v:Value}:(a.put d v).defers=a.defers:=by cases d<;>rfl
theorem eop_def {pu ld gr : Nat → Bool} {i : Nat} {K : Act → World → Prop} {ds : List Deferred} {a : Act} {w : World} (hd : a.defers = ds) (h : eOp P ops pu ld gr i K a w) : eOp P ops pu ld gr i (fun a' w' => K a' w' ∧ a'.defers = ds) a w := by
  unfold eOp at *
  split
  · next e=>rw [e] at h;exact h
  · next o e =>
    rw [e] at h
    simp only at h
    split
    · next hw =>
      rw [if_pos hw] at h
      split
      · next hp =>
        rw [if_pos hp] at h
        obtain ⟨v,h1,h2⟩:=h
        exact ⟨v,h1,h2,by rw [put_def];exact hd⟩
      · next hp =>
        rw [if_neg hp] at h
        exact h.mono fun u w' hk=>⟨⟨hk.1,by rw [put_def];exact hd⟩,hk.2⟩
    · next hw =>
      rw [if_neg hw] at h
      exact ⟨h,by rw [put_def];exact hd⟩
theorem eop_mono {pu ld gr : Nat → Bool} {i : Nat} {K K' : Act → World → Prop} (hk : ∀ a w, K a w → K' a w) {a : Act} {w : World} (h : eOp P ops pu ld gr i K a w) : eOp P ops pu ld gr i K' a w := by
  unfold eOp at *
  split
  · next e=>rw [e] at h;exact h
  · next o e =>
    rw [e] at h
    simp only at h
    split
    · next hw =>
      rw [if_pos hw] at h
      split
      · next hp =>
        rw [if_pos hp] at h
        obtain ⟨v,h1,h2⟩:=h
        exact ⟨v,h1,hk _ _ h2⟩
      · next hp =>
        rw [if_neg hp] at h
        exact h.mono fun u w' h'=>⟨hk _ _ h'.1,h'.2⟩
    · next hw =>
      rw [if_neg hw] at h
      exact hk _ _ h
theorem et_def {pu ld gr:Nat→Bool} {K:Act→World→Prop} {ds:List Deferred}:∀ (t:IT) (a:Act) (w:World),a.defers=ds→ET P ops pu ld gr K t a w→ET P ops pu ld gr (fun a' w'=>K a' w'∧a'.defers=ds) t a w
  | .done,a,w,hd,h=>⟨h,hd⟩
  | .op i t,a,w,hd,h=>eop_mono (fun a' w' h'=>et_def t a' w' h'.2 h'.1) (eop_def hd h)
  | .alt t u,a,w,hd,h=>⟨et_def t a w hd h.1,et_def u a w hd h.2⟩
theorem et_mono {pu ld gr:Nat→Bool} {K K':Act→World→Prop} (hk:∀ a w,K a w→K' a w):∀ (t:IT) (a:Act) (w:World),ET P ops pu ld gr K t a w→ET P ops pu ld gr K' t a w
  | .done,a,w,h=>hk a w h
  | .op i t,a,w,h=>eop_mono (fun a' w' h'=>et_mono hk t a' w' h') h
  | .alt t u,a,w,h=>⟨et_mono hk t a w h.1,et_mono hk u a w h.2⟩
theorem region_treeD {G:Gh} {l:List Op1} (tp:Bool) (hmix:P.follows .mixedOrders=true) (hl:ops.toList.mapM (cOp P G.nt ops.toList)=some l) (hF:Free G (asgOps l)) {K:S→Prop} {s:S} {a:Act} {w:World}
    (hv:vcT P (treeT ops (if tp then l.map Op1.toP else l)) K s) (hs:SR G s a w):RegA P ops true (fun e a' w'=>e=.normal∧(∃ s',K s'∧SR G s' a' w')∧a'.defers=a.defers) a w:=by
  have hb1:Below w.heap.size w { w with drawn:=w.drawn+1 }:=⟨rfl,rfl,rfl,Nat.le_refl _,fun _ _=>rfl⟩
  have hs1:SR G s a { w with drawn:=w.drawn+1 }:=let ⟨A,β,γ,g⟩:=hs;⟨A,β,γ,g.world hb1⟩
  obtain ⟨l',hl'⟩ : ∃ l',l'=(if tp then l.map Op1.toP else l):=⟨_,rfl⟩
  rw [← hl'] at hv
  unfold treeT treeC at hv
  simp only at hv
  split at hv
  · next hB =>
    rw [Bool.and_eq_true] at hB
    subst hl'
    refine reg_tree hmix hB.2 (et_mono (K:=fun a' w'=>(∃ s',K s'∧SR G s' a' w')∧a'.defers=a.defers) (fun a' w' h=>⟨rfl,h.1,h.2⟩) _ _ _ (et_def _ _ _ rfl ?_))
    refine tree_sound (Q:=fun _ a' w' => ∃ s',K s'∧SR G s' a' w') (.tp tp l) hl hF (fun i h => ?_) (fun i h => ?_) (fun s' a' w' hk hs'=>⟨s',hk,hs'⟩) _ s a _ hv hs1
    · rw [Bool.and_eq_true] at h;exact h.1
    · unfold grF2 at h;rw [Bool.or_eq_true] at h;exact h
  · exact hv.elim
def Gf (nt:Nat) (w:World) (R:Nat→Prop) (ts:List Nat) (a:Act):Gh:=⟨{ w0:=w,A0:=R,O0:=fun _=>False,n0:=0,β0:=fun _=>none,F:=fun _=>False },nt,fun t y=>t ∉ ts∧y=⟨fun _=>none,fun _=>False,.v (a.tmps.getD t undef)⟩,[]⟩
def S.fr (ups:List (Nat × D)):S:={ ρ:=fun t=>(look t ups).getD .junk,M:=fun _=>none,N:=0 }
def frD:Option D→D
  | some d=>d
  | none=>.junk
theorem frD_some {d:D}:frD (some d)=d:=(rfl)
theorem frD_none:frD none=.junk:=(rfl)
theorem fr_ρ {ups:List (Nat × D)} {t:Nat}:(S.fr ups).ρ t=frD (look t ups):=by show (look t ups).getD .junk=_;cases look t ups<;>rfl
theorem fr_M {ups:List (Nat × D)} {τ:Nat}:(S.fr ups).M τ=none:=(rfl)
theorem fr_N {ups:List (Nat × D)}:(S.fr ups).N=0:=(rfl)
theorem fr_gr {nt:Nat} {w:World} {R:Nat→Prop} {ts:List Nat} {a:Act} {ups:List (Nat × D)} (hR:∀ b,R b→b<w.heap.size) (ha:a.tmps.size=nt) (hd:a.defers=[]) (hu:∀ p,p ∈ ups→CR w R p.2 (a.tmps.getD p.1 undef)):GR (Gf nt w R ts a) (S.fr ups) a w R (fun _=>none) (fun _=>none):=by
  refine ⟨ha,⟨⟨[],by rw [hd];rfl,List.nodup_nil,fun _ h=>(by cases h),fun _ h=>(by cases h)⟩,fun _ h=>(by cases h)⟩,⟨Bel.refl _ _,fun _ h=>h,fun _ h=>.inl h,hR,fun τ ob h=>absurd h (Nat.not_lt_zero _),fun b τ π h=>(by cases h),fun τ b h=>absurd h (Nat.not_lt_zero _),Nat.le_refl _,fun _ h=>h.elim,fun _ h=>h.elim⟩,fun t => ?_,fun t y hy => ?_⟩
  · show DR w R _ 0 ((look t ups).getD .junk) _
    cases hl:look t ups with
    | none=>exact DR.junk
    | some d=>exact .cl _ _ (hu _ (look_mem hl))
  · obtain ⟨_,rfl⟩:=hy
    exact .cl _ _ (.v _)
theorem put_get {a:Act} {d:Nat} {v:Value} {t:Nat} (h:d<a.tmps.size):(a.put (some d) v).tmps.getD t undef=if d=t then v else a.tmps.getD t undef:=by
  show (a.tmps.setIfInBounds d v).getD t undef=_
  simp only [Array.getD_eq_getD_getElem?,Array.getElem?_setIfInBounds]
  by_cases e:d=t
  · subst e;simp [h]
  · rw [if_neg e,if_neg e]
def putF (f:Nat→Value) (ts:List Nat) (a:Act):Act:=ts.foldl (fun a t=>a.put (some t) (f t)) a
theorem putF_get {f:Nat→Value} {n:Nat}:∀ {ts:List Nat} {a:Act},a.tmps.size=n→(∀ t,t ∈ ts→t<n)→(putF f ts a).tmps.size=n∧(putF f ts a).defers=a.defers∧∀ t,(putF f ts a).tmps.getD t undef=if t ∈ ts then f t else a.tmps.getD t undef
  | [],a,hn,_=>⟨hn,rfl,fun t=>by simp [putF]⟩
  | x :: ts, a, hn, ht => by
    have hx:x<a.tmps.size:=by rw [hn];exact ht x (by simp)
    obtain ⟨h1,h2,h3⟩:=putF_get (f:=f) (ts:=ts) (a:=a.put (some x) (f x)) (by show (a.tmps.setIfInBounds x (f x)).size=n;simpa using hn) fun t h=>ht t (by simp [h])
    refine ⟨h1,h2.trans put_def,fun t => ?_⟩
    show (putF f ts (a.put (some x) (f x))).tmps.getD t undef=_
    rw [h3,put_get hx]
    by_cases e:t ∈ ts
    · rw [if_pos e,if_pos (by simp [e])]
    · rw [if_neg e]
      by_cases e2:x=t
      · subst e2;rw [if_pos rfl,if_pos (by simp)]
      · rw [if_neg e2,if_neg (by simp [e,Ne.symm e2])]
theorem putF_eq {a a':Act} {ts:List Nat} {n:Nat} (hn:a.tmps.size=n) (hn':a'.tmps.size=n) (hd:a'.defers=a.defers) (ht:∀ t,t ∈ ts→t<n) (h:∀ t,t ∉ ts→a'.tmps.getD t undef=a.tmps.getD t undef):a'=putF (fun t=>a'.tmps.getD t undef) ts a:=by
  obtain ⟨h1,h2,h3⟩:=putF_get (f:=fun t=>a'.tmps.getD t undef) (ts:=ts) hn ht
  have e1:a'.tmps=(putF (fun t=>a'.tmps.getD t undef) ts a).tmps:=by
    apply Array.ext
    · rw [hn',h1]
    · intro i hi hi'
      have:=h3 i
      rw [Array.getD,dif_pos hi'] at this
      have e2:a'.tmps.getD i undef=a'.tmps[i]:=by rw [Array.getD,dif_pos hi];rfl
      have e3:(putF (fun t=>a'.tmps.getD t undef) ts a).tmps[i]=if i ∈ ts then a'.tmps.getD i undef else a.tmps.getD i undef:=this
      rw [e3]
      by_cases e:i ∈ ts
      · rw [if_pos e,e2]
      · rw [if_neg e,← h i e,e2]
  have e4:=hd.trans h2.symm
  cases a' with
  | mk tm df =>
    generalize putF _ ts a=x at e1 e4 ⊢
    cases x
    simp only at e1 e4
    rw [e1,e4]
theorem yield_region {m nt:Nat} {l:List Op1} {ts:List Nat} {ups:List (Nat × D)} {X:Type} {outs:X→List (Nat × D)} {Inv:X→Prop} {id:Nat} {Q:Exit→Act→World→Prop} {a:Act} {w:World} {R:Nat→Prop} (hmix:P.follows .mixedOrders=true) (hB:preB ops m=true)
    (hl:(ops.take m).toList.mapM (cOp P nt (ops.take m).toList)=some l) (hts:(asgOps l).all (fun t=>decide (t<nt) && ts.contains t)=true) (htn:ts.all (fun t=>decide (t<nt))=true)
    {ms:X→List (Nat × Ob)} {n:Nat} (hv:vcT P (treeT (ops.take m) (l.map Op1.toP)) (cutK outs ms Inv n) (S.fr ups))
    (hR:∀ b,R b→b<w.heap.size) (ha:a.tmps.size=nt) (hd:a.defers=[]) (hu:∀ p,p ∈ ups→CR w R p.2 (a.tmps.getD p.1 undef))
    (hrest:∀ (x:X) (f:Nat→Value) (w':World) (s2:S) (A:Nat→Prop) (β:Nat→Option Nat) (γ:Nat→Option (Nat × List Nat)),Inv x→GR (Gf nt w R ts a) s2 (putF f ts a) w' A β γ→(putF f ts a).defers=[]→Fits s2 (outs x) (ms x) →
      wpOpIn (FR none) 0 P ops Q m (wpOpIn (FR none) 0 P ops Q (m+1) (fun a w=>Q .normal a w)) (putF f ts a) w'):(Code.region id ops true).wpIn (FR none) 0 P Q a w:=by
  have hF:Free (Gf nt w R ts a) (asgOps l):=fun t ht=>by
    have:=List.all_eq_true.1 hts t ht
    simp only [Bool.and_eq_true,decide_eq_true_eq] at this
    exact ⟨this.1,fun y hy=>hy.1 (by simpa using this.2)⟩
  have htn':∀ t,t ∈ ts→t<nt:=fun t ht=>by simpa using List.all_eq_true.1 htn t ht
  have hreg:=region_treeD (G:=Gf nt w R ts a) true hmix hl hF (s:=S.fr ups) (a:=a) (w:=w) (K:=cutK outs ms Inv n) (by simpa using hv) ⟨R,_,_,fr_gr hR ha hd hu⟩
  refine region_pre hmix hB (Q':=fun e a' w'=>e=.normal∧(∃ s',cutK outs ms Inv n s'∧SR (Gf nt w R ts a) s' a' w')∧a'.defers=a.defers) (fun h => ?_) (fun c a w h=>(by cases h.1)) (fun a' w' h => ?_) hreg
  · obtain ⟨a2,w2,h2⟩:=h
    cases h2.1
  · obtain ⟨_,⟨s',⟨s2,hg,hn,x,hx,hfit⟩,A0,β0,γ0,g0⟩,hdef⟩:=h
    obtain ⟨A,β,γ,g⟩:=hg.sound g0
    have g3:=g.trim hn (Nat.zero_le _)
    have hkeep:∀ t,t ∉ ts→a'.tmps.getD t undef=a.tmps.getD t undef:=fun t ht=>kr_v (g3.keep t _ ⟨ht,rfl⟩)
    have hsz:a'.tmps.size=nt:=g3.size
    rw [putF_eq ha hsz hdef htn' hkeep] at g3 ⊢
    exact hrest x _ w' _ A β γ hx g3 ((putF_get ha htn').2.1.trans hd) hfit
theorem new_cr {G : Gh} {s0 : S} {a : Act} {w : World} {A : Nat → Prop} {β : Nat → Option Nat} {γ : Nat → Option (Nat × List Nat)} {τ sz off n : Nat} {ob : Ob} {x : Value} (g0 : GR G s0 a w A β γ) (hO : ∀ b, ¬ G.g.O0 b) (hM : s0.M τ = some ob) (hp : ob.pl = true) (hτ : τ < s0.N) (hd : DR w A β s0.N (.ref τ sz off n) x) :
    CR w (fun b=>G.g.w0.heap.size≤b∧b<w.heap.size) (viewO (some ob) sz off n) x:=by
  have H':=g0.hr
  let s:S:=⟨fun _=>.junk,fun σ=>if σ=τ then some ob else none,s0.N⟩
  let G1:Gh:=⟨{ w0:=w,A0:=fun _=>False,O0:=fun _=>True,n0:=0,β0:=fun _=>none,F:=fun _=>False },0,fun _ _=>False,[]⟩
  have hsm:s.M τ=some ob:=by simp [s]
  have hd0:DR w (fun _=>False) β s.N (.ref τ sz off n) x:=by
    cases hd with
    | cl d x h'=>cases h'
    | ref τ sz off n c b arr T h1 hb hc hh hr=>exact .ref τ sz off n c b arr T h1 hb hc hh hr
    | refz τ sz off b h1=>exact .refz τ sz off b h1
  have g:HR G1.g w (fun _=>False) β γ s.N s.M:=by
    refine ⟨Bel.refl _ _,fun _ h=>h,fun _ h=>h.elim,fun _ h=>h.elim,fun σ ob' h1 h2 => ?_,fun b σ π h1 h2 h3 => ?_,fun σ b h1 h2 h3 => ?_,Nat.zero_le _,fun _ h=>h.elim,fun _ h=>h.elim⟩
    · have e:σ=τ:=by
        by_cases e:σ=τ
        · exact e
        · simp [s,e] at h2
      subst e
      rw [hsm] at h2;cases h2
      exact or_pl (H'.objs σ ob hτ hM) hp
    · have e:σ=τ:=by
        by_cases e:σ=τ
        · exact e
        · simp [s,e] at h3
      subst e
      exact ⟨(H'.own b σ π h1 hτ (by rw [hM];simp)).1,fun h=>h,.inr trivial,(H'.own b σ π h1 hτ (by rw [hM];simp)).2.2.2⟩
    · have e:σ=τ:=by
        by_cases e:σ=τ
        · exact e
        · simp [s,e] at h2
      subst e
      exact H'.root σ b hτ (by rw [hM];simp) h3
  have:=ref_cr (G:=G1) (s:=s) (γ:=γ) g (A':=fun b=>G.g.w0.heap.size≤b∧b<w.heap.size) (fun _ h=>h.elim) (fun b π h1 _=>by
    obtain ⟨q1,_,q3,_⟩:=H'.own b τ π h1 hτ (by rw [hM];simp)
    exact ⟨q3.resolve_right (hO b),q1⟩) hd0
  rw [hsm] at this
  exact this
theorem value_opIn {i:Nat} {o:Oper} {Q:Exit→Act→World→Prop} {K:Act→World→Prop} {a:Act} {w:World} {u:Value} (ho:ops[i]?=some o) (hg:o.guard=none) (hnd:∀ c,o.op ≠ .defer c) (hr:(execOp a.eval o).run P w=.ok (.value u) w) (hK:K (a.put o.dst u) w):wpOpIn (FR none) 0 P ops Q i K a w:=by
  unfold wpOpIn
  rw [ho]
  simp only [wanted_noneY hg,if_true]
  unfold Oper.wpIn
  refine ⟨fun _ _=>trivial,?_⟩
  rw [Oper.semAt_eq _ _ _ hnd,hr]
  exact hK
theorem yield_opIn {i x y l:Nat} {o:Oper} {ats:Array TypeId} {Q:Exit→Act→World→Prop} {K:Act→World→Prop} {a:Act} {w:World} {R:Ending→World→Prop} (ho:ops[i]?=some o) (hg:o.guard=none) (hop:o.op=.call ⟨.value (.tmp x),#[.tmp y],ats⟩) (hx:a.tmps.getD x undef=.func (.yield l) #[] #[])
    (hY:YieldAt Fence.wide 0 P l #[a.tmps.getD y undef] w R) (hR:∀ e w',R e w' → ∃ u,e=.returned u∧K (a.put o.dst u) w'):wpOpIn (FR none) 0 P ops Q i K a w:=by
  obtain ⟨fn,tmps,asg,bd,hy,hrd⟩:=hY
  unfold wpOpIn
  rw [ho]
  simp only [wanted_noneY hg,if_true]
  unfold Oper.wpIn
  refine ⟨fun _ _=>trivial,?_⟩
  rw [Oper.semAt_eq _ _ _ (fun c e=>by rw [hop] at e;cases e)]
  have e1:a.eval (.tmp x)=.func (.yield l) #[] #[]:=hx
  have e2:(#[Operand.tmp y].map a.eval:Array Value) = #[a.tmps.getD y undef]:=by simp [Act.eval]
  have hrun:(execOp a.eval o).run P w=.ok (.round l fn tmps asg bd) w:=by
    simp only [execOp,hop,resolve,e1,e2,Deferred.ofValue,invoke,Array.empty_append,Sem.run_bind,Sem.run_pure,Result.andThen_ok]
    exact hy
  rw [hrun]
  refine ⟨fun h=>(by cases h),RoundIn.mono hrd fun e w' he => ?_⟩
  obtain ⟨u,rfl,hk⟩:=hR e w' he
  exact hk
theorem callv_opIn {i x y f:Nat} {o:Oper} {ats:Array TypeId} {cs:Array Value} {Q:Exit→Act→World→Prop} {K:Act→World→Prop} {a:Act} {w:World} {R:Ending→World→Prop} (ho:ops[i]?=some o) (hg:o.guard=none) (hop:o.op=.call ⟨.value (.tmp x),#[.tmp y],ats⟩) (hx:a.tmps.getD x undef=.func (.func f) #[] cs)
    (hf:∀ args w,(callFunc f args).run P w=.ok (.enter f args) w) (hC:CallsIn Fence.wide 0 P f (#[a.tmps.getD y undef]++cs) w R) (hR:∀ e w',R e w' → ∃ u,e=.returned u∧K (a.put o.dst u) w'):wpOpIn (FR none) 0 P ops Q i K a w:=by
  unfold wpOpIn
  rw [ho]
  simp only [wanted_noneY hg,if_true]
  unfold Oper.wpIn
  refine ⟨fun _ _=>trivial,?_⟩
  rw [Oper.semAt_eq _ _ _ (fun c e=>by rw [hop] at e;cases e)]
  have e1:a.eval (.tmp x)=.func (.func f) #[] cs:=hx
  have e2:(#[Operand.tmp y].map a.eval:Array Value) = #[a.tmps.getD y undef]:=by simp [Act.eval]
  have hrun:(execOp a.eval o).run P w=.ok (.enter f (#[a.tmps.getD y undef]++cs)) w:=by
    simp only [execOp,hop,resolve,e1,e2,Deferred.ofValue,invoke,Array.empty_append,Sem.run_bind,Sem.run_pure,Result.andThen_ok]
    exact hf _ _
  rw [hrun]
  refine ⟨fun h=>(by cases h),CallsIn.mono hC fun e w' he => ?_⟩
  obtain ⟨u,rfl,hk⟩:=hR e w' he
  exact hk
end
end Go.Dm

namespace Go.Proofs.Ytjekkbpdgnohcaa
open Go.RowKit Go.Shelf Go.Dm
attribute [local go_sem] Oper.semAt_some
theorem callFunc_ok {P : Program} {f : FuncId} {fn : Func} (hf : P.funcs[f]? = some fn) (hb : fn.body.isSome = true) (hn : (fn.name == "runtime.NumGoroutine") = false) (args : Array Value) (w : World) : (callFunc f args).run P w = .ok (.enter f args) w := by
  have hb':fn.body.isNone=false:=by cases hx:fn.body<;>simp_all
  simp only [callFunc,Sem.run_bind,Sem.run_pure,Result.andThen_ok,run_program,hf]
  simp [hn,hb']
theorem i64s_cells {w:World} {A:Nat→Prop} {l:List Int} {u:Value} (h:CR w A (.sl 1 (i64s l)) u):(l=[] ∧ ∃ b c,u=.slice b 0 c) ∨ ∃ b off c,u=.slice (some ⟨b,off,none⟩) l.length c∧A b∧∀ j,j<l.length→w.cell? ⟨b,off+j,none⟩=some (.int .i64 (l.getD j 0)):=by
  generalize hes:i64s l=es at h
  have hlen:es.length=l.length:=by rw [← hes];simp [i64s]
  cases h with
  | sl0 sz b c=>left;exact ⟨List.eq_nil_of_length_eq_zero hlen.symm,b,c,rfl⟩
  | sl sz es b off n c us hA hn hcap hs hc hr =>
    right
    refine ⟨b,off,c,by rw [← hlen,hn],hA,fun j hj => ?_⟩
    have h1:=(hc j 0 (by omega) (by omega)).1
    have h2:=hr j 0 (by omega) (by omega)
    have e:(es.getD j []).getD 0 .junk=.v (.int .i64 (l.getD j 0)):=by rw [← hes];simp [i64s,List.getD,hj]
    rw [e] at h2
    generalize us j 0=v at h1 h2
    cases h2
    rw [Nat.mul_one,Nat.add_zero] at h1
    exact h1
end Go.Proofs.Ytjekkbpdgnohcaa

namespace Go.Proofs.Ytjekkbpdgnohcaa
open Go.Dm
set_option maxRecDepth 10000 in
set_option maxHeartbeats 4000000 in
theorem clone_int (l:List (Int)) (h:l.length≤1000000):Dm.SpecH Try.prog 57 [.sl 1 (i64s l)] [] (fun d o=>d=.ref 1 1 0 l.length∧o=[none,some ⟨1,i64s l,true,false,.arr⟩]):=by
  refine specH_of_vc mixed Try.func57 c57 (by rw [show Try.f57.ntmps=_ from Try.ntmps57];simp) ?_
  unfold m57 r57
  repeat' first|((first|refine Br.dec ?_ ?_|refine Br.eqi ?_ ?_)<;>intro h<;>try (exfalso;omega))|refine Z1 ?_|with_reducible exact trivial|(refine Br.mk ?_ ?_<;>intro h)|(refine BrN.mk (fun h => ?_) ?_)|(refine AltVC.mk ?_ ?_)
  · have:l=[]:=List.eq_nil_of_length_eq_zero (by assumption)
    subst this
    exact finH_mk [none,some ⟨1,[],true,false,.arr⟩] (by simp) Y0 Y0 ⟨by simp (disch:=first|omega|(simp only [vlen];first|done|omega)) only [↓vAq,vBq,↓reduceIte,Nat.reduceBEq,Nat.reduceEqDiff,Nat.reduceLT,Nat.reduceLeDiff,Nat.reduceAdd,Nat.reduceMul,Nat.reduceSub,reduceCtorEq,Int.reduceToNat],rfl⟩
  · exact finH_mk [none,some ⟨1,i64s l,true,false,.arr⟩] (by simp) Y0 Y0 ⟨by simp (disch:=first|omega|(simp only [vlen];first|done|omega)) only [↓vAq,vBq,↓reduceIte,Nat.reduceBEq,Nat.reduceEqDiff,Nat.reduceLT,Nat.reduceLeDiff,Nat.reduceAdd,Nat.reduceMul,Nat.reduceSub,reduceCtorEq,Int.reduceToNat],rfl⟩
end Go.Proofs.Ytjekkbpdgnohcaa
