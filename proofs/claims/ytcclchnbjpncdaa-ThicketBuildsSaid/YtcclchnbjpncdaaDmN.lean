/-
  A logic for Go functions over plain data,part N: regions that draw their order: one walk,the reading operations as early as they may come,serves every order.
-/
import Derived.Test.YtcclchnbjpncdaaDmA
set_option linter.unusedSimpArgs false
set_option linter.unusedVariables false
namespace Go.Dm
open Go.RowKit
def RegA (P:Program) (ops:Array Oper) (draw:Bool) (Q:Exit→Act→World→Prop) (a:Act) (w:World):Prop :=
  if draw then wpAny P .any ops Q ops.size (Array.replicate ops.size false) a { w with drawn:=w.drawn+1 } else wpList P ops Q ops.toList a w
theorem RegA.draw {P:Program} {ops:Array Oper} {Q:Exit→Act→World→Prop} {a:Act} {w:World} (h:wpAny P .any ops Q ops.size (Array.replicate ops.size false) a { w with drawn:=w.drawn+1 }):RegA P ops true Q a w:=h
theorem RegA.list {P:Program} {ops:Array Oper} {Q:Exit→Act→World→Prop} {a:Act} {w:World} (h:wpList P ops Q ops.toList a w):RegA P ops false Q a w:=h
def FR (r:Option Nat):Fence:={ Fence.wide with round:=r }
theorem FR_none:FR none=Fence.wide:=rfl
theorem rows_in {P:Program} {row:String} {args:Array Value} {w:World} {R:Value→World→Prop} {r:Option Nat} (h:Rows P row args w R):RowsIn (FR r) 0 P row args w R:=fun c cs _=>by
  obtain ⟨v,w',hr,hs⟩:=h c cs
  exact ⟨v,w',hr,stepsIn_wide.2 hs⟩
theorem op_in {P:Program} {o:Oper} {a:Act} {w:World} {K:Act→World→Prop} {Q:Exit→Act→World→Prop} {r:Option Nat} (hnd:∀ c,o.op ≠ .defer c) (hQ:¬ LetsOut Q) (h:o.wp P a w K Q∨(o.asks P a w∧LetsOut Q)):o.wpIn (FR r) 0 P a w K Q:=by
  have h:=h.resolve_right fun h=>hQ h.2
  refine ⟨fun _ _=>trivial,?_⟩
  rw [Oper.semAt_eq _ _ _ hnd]
  unfold Oper.wp at h
  generalize (execOp a.eval o).run P w=x at *
  cases x with
  | ok n w' =>
    cases n with
    | value u=>exact h
    | skip=>exact h
    | defer d=>exact h
    | enter f args=>exact ⟨fun h=>(by cases h),callsIn_wide.2 h⟩
    | row row args=>exact ⟨fun h=>(by cases h),rows_in h⟩
    | _=>exact h.elim
  | halt x w' =>
    cases x with
    | panic v=>exact h
    | _=>exact h.elim
theorem list_in {P:Program} {ops:Array Oper} {Q:Exit→Act→World→Prop} {r:Option Nat} (hQ:¬ LetsOut Q):∀ (l:List Oper) (a:Act) (w:World),(∀ o,o ∈ l→∀ c,o.op ≠ .defer c)→wpList P ops Q l a w→wpListIn (FR r) 0 P ops Q l a w
  | [],_,_,_,h=>h
  | o :: l, a, w, hnd, h => by
    have ih:∀ a w,wpList P ops Q l a w→wpListIn (FR r) 0 P ops Q l a w:=fun a w h=>list_in hQ l a w (fun o ho=>hnd o (List.mem_cons_of_mem _ ho)) h
    unfold wpListIn
    unfold wpList at h
    split
    · next hw =>
      rw [if_pos hw] at h
      exact op_in (hnd o List.mem_cons_self) hQ (h.imp (Oper.wp_mono ih) id)
    · next hw =>
      rw [if_neg hw] at h
      exact ⟨fun _ _=>trivial,ih _ _ h⟩
theorem any_in {P : Program} {md : Region.Mode} {ops : Array Oper} {Q : Exit → Act → World → Prop} {r : Option Nat} (hQ : ¬ LetsOut Q) (hnd : ∀ o, o ∈ ops.toList → ∀ c, o.op ≠ .defer c) : ∀ (fuel : Nat) (listed : Array Bool) (a : Act) (w : World), wpAny P md ops Q fuel listed a w → wpAnyIn (FR r) 0 P md ops Q fuel listed a w
  | 0,_,_,_,h=>h
  | fuel+1,listed,a,w,h=>by
    refine ⟨h.1,fun i hi => ?_⟩
    have h2:=wpOp_mono (fun a w=>any_in (r:=r) hQ hnd fuel (listed.setIfInBounds i true) a w) (h.2 i hi)
    unfold wpOp at h2
    unfold wpOpIn
    split
    · next ho=>rw [ho] at h2;exact h2
    · next o ho =>
      rw [ho] at h2
      simp only at h2
      split
      · next hw =>
        rw [if_pos hw] at h2
        exact op_in (hnd o (by simpa using Array.mem_of_getElem? ho)) hQ h2
      · next hw =>
        rw [if_neg hw] at h2
        exact ⟨fun _ _=>trivial,h2⟩
theorem RegA.wp {P:Program} {ops:Array Oper} {id:Nat} {draw:Bool} {Q:Exit→Act→World→Prop} {a:Act} {w:World} {r:Option Nat} (hmix:P.follows .mixedOrders=true) (hnd:r=none∨∀ o,o ∈ ops.toList→∀ c,o.op ≠ .defer c) (hQ:¬ LetsOut Q)
    (h:RegA P ops draw Q a w):(Code.region id ops draw).wpIn (FR r) 0 P Q a w:=by
  rcases hnd with rfl|hnd
  · rw [FR_none,wpIn_wide]
    cases draw with
    | true=>exact wp_region_any hmix h
    | false=>exact wp_region_list h
  · cases draw with
    | true=>exact wpIn_region_any hmix (any_in hQ hnd _ _ _ _ h)
    | false=>exact wpIn_region_list (list_in hQ _ _ _ hnd h)
def Same (w w':World):Prop:=∀ b,b<w.heap.size→w'.heap[b]?=w.heap[b]?
theorem Same.refl (w:World):Same w w:=fun _ _=>rfl
def Eff (P:Program) (o:Oper) (a:Act) (w:World) (N:Value→World→Prop):Prop :=
  match (execOp a.eval o).run P w with
  | .ok (.value u) w'=>N u w'
  | .ok .skip w'=>N undef w'
  | .ok (.enter f args) w'=>Calls P f args w' fun e w'' => ∃ u,e=.returned u∧N u w''
  | _=>False
section
variable {P:Program} {ops:Array Oper} {o:Oper} {a:Act} {w:World}
theorem Eff.mono {N N':Value→World→Prop} (h:Eff P o a w N) (hn:∀ u w',N u w'→N' u w'):Eff P o a w N':=by
  unfold Eff at *
  generalize (execOp a.eval o).run P w=r at *
  cases r with
  | ok n w' =>
    cases n with
    | value u=>exact hn _ _ h
    | skip=>exact hn _ _ h
    | enter f args=>exact h.mono fun e w'' ⟨u,e1,h⟩=>⟨u,e1,hn _ _ h⟩
    | _=>exact h.elim
  | halt x w'=>exact h.elim
theorem eff_wp {next:Act→World→Prop} {Q:Exit→Act→World→Prop} (h:Eff P o a w (fun u w'=>next (a.put o.dst u) w')):o.wp P a w next Q:=by
  unfold Eff at h
  unfold Oper.wp
  generalize (execOp a.eval o).run P w=r at *
  cases r with
  | ok n w' =>
    cases n with
    | value u=>exact h
    | skip=>exact h
    | enter f args =>
      rw [Oper.upon_enter]
      refine h.mono ?_
      rintro e w'' ⟨u,rfl,h⟩
      exact h
    | _=>exact h.elim
  | halt x w'=>exact h.elim
theorem Eff.congr {a':Act} {N:Value→World→Prop} (he:execOp a'.eval o=execOp a.eval o) (h:Eff P o a w N):Eff P o a' w N:=by
  unfold Eff at *;rw [he];exact h
def Yld (P:Program) (ld:Bool) (o:Oper) (a:Act) (w:World) (v:Value):Prop:=∀ w',(ld=true→Same w w')→(execOp a.eval o).run P w'=.ok (.value v) w'
variable {Q:Exit→Act→World→Prop} {pu ld gr:Nat→Bool}
def eOp (P : Program) (ops : Array Oper) (pu ld gr : Nat → Bool) (i : Nat) (K : Act → World → Prop) (a : Act) (w : World) : Prop :=
  match ops[i]? with
  | none=>False
  | some o =>
    if Region.wanted o (yielded ops a.tmps) then
      if pu i then ∃ v,Yld P (ld i) o a w v∧K (a.put o.dst v) w
      else Eff P o a w fun u w'=>K (a.put o.dst u) w'∧(gr i=true→Same w w')
    else K (a.put o.dst undef) w
def EW (P:Program) (ops:Array Oper) (pu ld gr:Nat→Bool) (Q:Exit→Act→World→Prop):List Nat→Act→World→Prop
  | [],a,w=>Q .normal a w
  | i::r,a,w=>eOp P ops pu ld gr i (EW P ops pu ld gr Q r) a w
theorem Same.trans' {w1 w2 w3:World} (h:Same w1 w2) (k:Same w2 w3):Same w1 w3:=fun b hb=>by
  have h1:=h b hb
  have:b<w2.heap.size:=by
    rcases Nat.lt_or_ge b w2.heap.size with h'|h'
    · exact h'
    · rw [Array.getElem?_eq_none h',Array.getElem?_eq_getElem hb] at h1;cases h1
  exact (k b this).trans h1
theorem EW.front (hsel : ∀ (j : Nat) (o : Oper) cs b, ops[j]? = some o → o.op ≠ .select cs b) {i : Nat} {oi : Oper} (hi : ops[i]? = some oi) {post : List Nat} : ∀ (pre : List Nat) (a : Act) (w : World), (∀ j, j ∈ pre → pu j = true) → (∀ j oj, j ∈ pre → ops[j]? = some oj → oj.apart ops oi = true) →
    (pu i=false→gr i=false→∀ j,j ∈ pre→ld j=false)→EW P ops pu ld gr Q (pre++i::post) a w→eOp P ops pu ld gr i (EW P ops pu ld gr Q (pre++post)) a w
  | [],a,w,_,_,_,h=>h
  | j :: pre, a, w, h1, h2, h3, h => by
    have ih:=EW.front hsel hi (post:=post) pre
    have hj:pu j=true:=h1 j (by simp)
    have h':eOp P ops pu ld gr j (EW P ops pu ld gr Q (pre++i::post)) a w:=h
    unfold eOp at h'
    cases hoj:ops[j]? with
    | none=>rw [hoj] at h';exact h'.elim
    | some oj =>
      rw [hoj] at h'
      simp only [hj,if_true] at h'
      have hap:=h2 j oj (by simp) hoj
      obtain ⟨p1,p2,p3⟩:=Oper.apart_spec hap
      have ih':=fun a w=>ih a w (fun k hk=>h1 k (by simp [hk])) (fun k ok hk=>h2 k ok (by simp [hk])) (fun q1 q2 k hk=>h3 q1 q2 k (by simp [hk]))
      have exi:∀ (v:Value),execOp (a.put oj.dst v).eval oi=execOp a.eval oi:=fun v=>execOp_put oi (fun cs b=>hsel i oi cs b hi) a oj.dst v p1
      have wai:∀ (v:Value),Region.wanted oi (yielded ops (a.put oj.dst v).tmps)=Region.wanted oi (yielded ops a.tmps):=fun v=>wanted_put oi a oj.dst v p1
      have exj:∀ (u:Value),execOp (a.put oi.dst u).eval oj=execOp a.eval oj:=fun u=>execOp_put oj (fun cs b=>hsel j oj cs b hoj) a oi.dst u p3
      have waj:∀ (u:Value),Region.wanted oj (yielded ops (a.put oi.dst u).tmps)=Region.wanted oj (yielded ops a.tmps):=fun u=>wanted_put oj a oi.dst u p3
      have com:∀ (v u:Value),(a.put oj.dst v).put oi.dst u=(a.put oi.dst u).put oj.dst v:=fun v u=>Act.put_comm a v u p2
      by_cases hw:Region.wanted oj (yielded ops a.tmps)=true
      · rw [if_pos hw] at h'
        obtain ⟨v,hy,hk⟩:=h'
        have hk2:=ih' _ _ hk
        unfold eOp at hk2 ⊢
        rw [hi] at hk2 ⊢
        simp only [wai] at hk2
        have back:∀ (u:Value) (w':World),(ld j=true→Same w w')→EW P ops pu ld gr Q (pre++post) ((a.put oj.dst v).put oi.dst u) w'→EW P ops pu ld gr Q (j::(pre++post)) (a.put oi.dst u) w':=by
          intro u w' hs hK
          show eOp P ops pu ld gr j (EW P ops pu ld gr Q (pre++post)) (a.put oi.dst u) w'
          unfold eOp
          rw [hoj]
          simp only [waj,hw,hj,if_true]
          refine ⟨v,fun w'' hs2 => ?_,?_⟩
          · rw [exj];exact hy w'' (fun hl=>(hs hl).trans' (hs2 hl))
          · rw [← com];exact hK
        by_cases hwi:Region.wanted oi (yielded ops a.tmps)=true
        · simp only [hwi,if_true] at hk2 ⊢
          cases hpi:pu i with
          | true =>
            simp only [hpi,if_true] at hk2 ⊢
            obtain ⟨u,hu,hK⟩:=hk2
            refine ⟨u,fun w' hs => ?_,back u w (fun _=>Same.refl w) hK⟩
            have:=hu w' hs
            rwa [exi] at this
          | false =>
            simp only [hpi,Bool.false_eq_true,if_false] at hk2 ⊢
            refine (hk2.congr (exi v).symm).mono fun u w' ⟨hK,hg⟩=>⟨back u w' (fun hl => ?_) hK,hg⟩
            cases hg':gr i with
            | true=>exact hg hg'
            | false=>have:=h3 hpi hg' j (by simp);rw [this] at hl;cases hl
        · simp only [hwi] at hk2 ⊢
          exact back undef w (fun _=>Same.refl w) hk2
      · rw [if_neg hw] at h'
        have hk2:=ih' _ _ h'
        unfold eOp at hk2 ⊢
        rw [hi] at hk2 ⊢
        simp only [wai] at hk2
        have back:∀ (u:Value) (w':World),EW P ops pu ld gr Q (pre++post) ((a.put oj.dst undef).put oi.dst u) w'→EW P ops pu ld gr Q (j::(pre++post)) (a.put oi.dst u) w':=by
          intro u w' hK
          show eOp P ops pu ld gr j (EW P ops pu ld gr Q (pre++post)) (a.put oi.dst u) w'
          unfold eOp
          rw [hoj]
          simp only [waj]
          rw [if_neg hw,← com];exact hK
        by_cases hwi:Region.wanted oi (yielded ops a.tmps)=true
        · simp only [hwi,if_true] at hk2 ⊢
          cases hpi:pu i with
          | true =>
            simp only [hpi,if_true] at hk2 ⊢
            obtain ⟨u,hu,hK⟩:=hk2
            refine ⟨u,fun w' hs => ?_,back u w hK⟩
            have:=hu w' hs
            rwa [exi] at this
          | false =>
            simp only [hpi,Bool.false_eq_true,if_false] at hk2 ⊢
            exact (hk2.congr (exi undef).symm).mono fun u w' ⟨hK,hg⟩=>⟨back u w' hK,hg⟩
        · simp only [hwi] at hk2 ⊢
          exact back undef w hk2
theorem wpOp_of_eOp {i : Nat} {K K' : Act → World → Prop} (hk : ∀ a w, K a w → K' a w) (h : eOp P ops pu ld gr i K a w) : wpOp P ops Q i K' a w := by
  unfold eOp at h
  unfold wpOp
  split
  · next ho=>rw [ho] at h;exact h.elim
  · next o ho =>
    rw [ho] at h
    simp only at h
    split
    · next hw =>
      rw [if_pos hw] at h
      left
      split at h
      · obtain ⟨v,hy,hK⟩:=h
        have:=hy w (fun _=>Same.refl w)
        exact eff_wp (by unfold Eff;rw [this];exact hk _ _ hK)
      · exact eff_wp (h.mono fun u w' h=>hk _ _ h.1)
    · next hw=>rw [if_neg hw] at h;exact hk _ _ h
def wt (ops:Array Oper) (j i:Nat):Bool :=
  match ops[j]? with
  | some oj=>oj.after.any fun e=>Region.binds .any e && e.on == i
  | none=>false
theorem wt_spec {j i:Nat} {oj:Oper} (hj:ops[j]?=some oj):wt ops j i=true ↔ ∃ e,e ∈ oj.after∧Region.binds .any e=true∧e.on=i:=by
  unfold wt
  rw [hj]
  simp only [Array.any_eq_true',Bool.and_eq_true,beq_iff_eq]
def inT (T:List (List Nat)) (i j:Nat):Bool:=(T.getD i []).contains j
def okR (ops:Array Oper) (pu ld gr:Nat→Bool) (T:List (List Nat)) (j i:Nat):Bool :=
  (wt ops i j || (match ops[j]?,ops[i]? with|some oj,some oi=>oj.apart ops oi|_,_=>false)) && (pu j || inT T i j) && (pu i || gr i || !ld j || inT T i j) && !wt ops j i
def pairB (R:Nat→Nat→Bool):List Nat→Bool
  | []=>true
  | j::r=>r.all (fun i=>R j i) && pairB R r
def eagerB (ops:Array Oper) (pu ld gr:Nat→Bool) (E:List Nat) (T:List (List Nat)):Bool :=
  Region.noSelect ops && E.all (fun i=>decide (i<ops.size)) && (List.range ops.size).all (fun i=>E.contains i) && pairB (fun j i=>j != i && okR ops pu ld gr T j i) E &&
  (List.range ops.size).all (fun i => !wt ops i i && (T.getD i []).all fun j=>wt ops i j || (T.getD i []).any fun k=>wt ops i k && decide (k<i) && inT T k j) &&
  ops.all (fun o=>o.after.all fun e => !Region.binds .any e || decide (e.on<ops.size))
theorem pairB_spec {R:Nat→Nat→Bool}:∀ {l:List Nat},pairB R l=true→l.Pairwise (fun j i=>R j i=true)
  | [],_=>List.Pairwise.nil
  | j::r,h=>by
    simp only [pairB,Bool.and_eq_true,List.all_eq_true] at h
    exact List.Pairwise.cons h.1 (pairB_spec h.2)
def Rdy (ops:Array Oper) (listed:Array Bool) (i:Nat):Prop:=∀ k,wt ops i k=true→listed.getD k false=true
structure Closed (ops:Array Oper) (listed:Array Bool):Prop where
  size:listed.size=ops.size
  rdy:∀ k,listed.getD k false=true→Rdy ops listed k
theorem dep_listed {T:List (List Nat)} {listed:Array Bool} (hT:∀ i,i<ops.size→∀ j,inT T i j=true→wt ops i j=true ∨ ∃ k,wt ops i k=true∧k<i∧inT T k j=true) (hc:Closed ops listed) :
    ∀ i,i<ops.size→Rdy ops listed i→∀ j,inT T i j=true→listed.getD j false=true:=by
  intro i
  induction i using Nat.strongRecOn with
  | _ i ih =>
    intro hi hr j hj
    rcases hT i hi j hj with h|⟨k,h1,h2,h3⟩
    · exact hr j h
    · have hk:=hr k h1
      exact ih k h2 (by omega) (hc.rdy k hk) j h3
theorem any_of_EW {E : List Nat} {T : List (List Nat)} (hB : eagerB ops pu ld gr E T = true) : ∀ (fuel : Nat) (listed : Array Bool) (a : Act) (w : World) (l : List Nat), l.Sublist E → (∀ i, i < ops.size → (i ∈ l ↔ listed.getD i true = false)) → Closed ops listed → l.length ≤ fuel →
    EW P ops pu ld gr Q l a w→wpAny P .any ops Q fuel listed a w:=by
  simp only [eagerB,Bool.and_eq_true] at hB
  obtain ⟨⟨⟨⟨⟨hsel0,hE⟩,hall⟩,hpair⟩,hT0⟩,hon⟩:=hB
  have hsel:=fun (j:Nat) (o:Oper) cs b=>Region.noSelect_spec hsel0 j o cs b
  have hPw:=pairB_spec hpair
  have hElt:∀ i,i ∈ E→i<ops.size:=fun i hi=>by simpa using List.all_eq_true.1 hE i hi
  have hself:∀ i,i<ops.size→wt ops i i=false:=fun i hi=>by
    have:=List.all_eq_true.1 hT0 i (List.mem_range.2 hi)
    simp only [Bool.and_eq_true,Bool.not_eq_true'] at this
    exact this.1
  have hT:∀ i,i<ops.size→∀ j,inT T i j=true→wt ops i j=true ∨ ∃ k,wt ops i k=true∧k<i∧inT T k j=true:=by
    intro i hi j hj
    have:=List.all_eq_true.1 hT0 i (List.mem_range.2 hi)
    simp only [Bool.and_eq_true] at this
    have h1:=List.all_eq_true.1 this.2 j (by simpa [inT] using hj)
    simp only [Bool.or_eq_true,List.any_eq_true,Bool.and_eq_true,decide_eq_true_eq] at h1
    rcases h1 with h|⟨k,_,⟨h1,h2⟩,h3⟩
    · exact .inl h
    · exact .inr ⟨k,h1,h2,h3⟩
  have honlt:∀ i k,wt ops i k=true→k<ops.size:=by
    intro i k h
    unfold wt at h
    split at h
    · next oi hi =>
      obtain ⟨e,he,hb⟩:=Array.any_eq_true'.1 h
      simp only [Bool.and_eq_true,beq_iff_eq] at hb
      have h1:=Array.all_eq_true_iff_forall_mem.1 hon oi (Array.mem_of_getElem? hi)
      have h2:=Array.all_eq_true_iff_forall_mem.1 h1 e he
      simp only [hb.1,Bool.not_true,Bool.false_or,decide_eq_true_eq] at h2
      rw [← hb.2];exact h2
    · cases h
  intro fuel
  induction fuel with
  | zero =>
    intro listed a w l hsub hl hc hf hew
    have:l=[]:=List.eq_nil_of_length_eq_zero (by omega)
    subst this
    refine ⟨?_,hew⟩
    rw [List.eq_nil_iff_forall_not_mem]
    intro i hi
    obtain ⟨h1,o,ho,_⟩:=mem_ready.1 hi
    have:=(hl i (Array.getElem?_eq_some_iff.1 ho).1).2 h1
    simp at this
  | succ fuel ih =>
    intro listed a w l hsub hl hc hf hew
    have hlp:l.Pairwise (fun j i=>(j != i && okR ops pu ld gr T j i)=true):=hPw.sublist hsub
    have both:∀ i,i<ops.size→(listed.getD i true=false ↔ ¬ listed.getD i false=true):=by
      intro i hi
      have:i<listed.size:=by rw [hc.size];exact hi
      simp [this]
    have rdy_of:∀ i,i ∈ Region.ready .any ops listed→i<ops.size∧Rdy ops listed i∧i ∈ l:=by
      intro i hi
      obtain ⟨h1,o,ho,h2⟩:=mem_ready.1 hi
      have hlt:=(Array.getElem?_eq_some_iff.1 ho).1
      refine ⟨hlt,fun k hk => ?_,(hl i hlt).2 h1⟩
      obtain ⟨e,he,hb,rfl⟩:=(wt_spec ho).1 hk
      exact h2 e he hb
    refine ⟨fun hr => ?_,fun i hi => ?_⟩
    · -- nothing may come: all has come
      cases l with
      | nil=>exact hew
      | cons i r =>
        exfalso
        have hilt:=hElt i (hsub.mem (by simp))
        have:i ∈ Region.ready .any ops listed:=by
          rw [mem_ready]
          refine ⟨(hl i hilt).1 (by simp),_,Array.getElem?_eq_getElem hilt,fun e he hb => ?_⟩
          have hw:wt ops i e.on=true:=(wt_spec (Array.getElem?_eq_getElem hilt)).2 ⟨e,he,hb,rfl⟩
          have hlt:=honlt i e.on hw
          cases hlk:listed.getD e.on false with
          | true=>rfl
          | false =>
            exfalso
            have hmem:=(hl e.on hlt).2 ((both e.on hlt).2 (by rw [hlk];simp))
            rcases List.mem_cons.1 hmem with h|h
            · rw [h,hself i hilt] at hw;cases hw
            · have:=(List.pairwise_cons.1 hlp).1 _ h
              simp only [okR,Bool.and_eq_true,Bool.not_eq_true'] at this
              rw [this.2.2] at hw;cases hw
        rw [hr] at this;cases this
    · obtain ⟨hlt, hrd, hmem⟩ := rdy_of i hi
      obtain ⟨pre,post,rfl⟩:=List.append_of_mem hmem
      have hpre:∀ j,j ∈ pre→(j != i && okR ops pu ld gr T j i)=true:=fun j hj=>(List.pairwise_append.1 hlp).2.2 j hj i (by simp)
      have hun:∀ j,j ∈ pre→¬ listed.getD j false=true:=fun j hj=>by
        have hj':=hElt j (hsub.mem (by simp [hj]))
        exact (both j hj').1 ((hl j hj').1 (by simp [hj]))
      have hdep:=dep_listed hT hc i hlt hrd
      have hoi:ops[i]?=some ops[i]:=Array.getElem?_eq_getElem hlt
      have hfront:=EW.front (P:=P) (Q:=Q) hsel hoi (post:=post) pre a w (fun j hj => ?_) (fun j oj hj hoj => ?_) (fun q1 q2 j hj => ?_) hew
      · refine wpOp_of_eOp (fun a' w' h=>ih (listed.setIfInBounds i true) a' w' (pre++post) ?_ (fun k hk => ?_) ⟨by simp [hc.size],fun k hk => ?_⟩ ?_ h) hfront
        · exact (List.Sublist.append_left (List.sublist_cons_self i post) pre).trans hsub
        · by_cases hki:i=k
          · subst hki
            have h1:(listed.setIfInBounds i true).getD i true=true:=by simp
            rw [h1]
            simp only [Bool.true_eq_false,iff_false]
            have hnd:(pre++i::post).Pairwise (fun j i=>j ≠ i):=hlp.imp (fun h=>by simp only [Bool.and_eq_true,bne_iff_ne] at h;exact h.1)
            intro hm
            rcases List.mem_append.1 hm with h|h
            · exact (List.pairwise_append.1 hnd).2.2 i h i (by simp) rfl
            · exact (List.pairwise_cons.1 (List.pairwise_append.1 hnd).2.1).1 i h rfl
          · rw [getD_set_ne true hki,← hl k hk]
            simp only [List.mem_append,List.mem_cons]
            constructor
            · rintro (h|h)
              · exact .inl h
              · exact .inr (.inr h)
            · rintro (h|h|h)
              · exact .inl h
              · exact absurd h.symm hki
              · exact .inr h
        · intro q hq
          by_cases hki:i=k
          · subst hki;exact getD_set_true (hrd q hq)
          · rw [getD_set_ne false hki] at hk
            exact getD_set_true (hc.rdy k hk q hq)
        · simp only [List.length_append,List.length_cons] at hf ⊢;omega
      · have:=hpre j hj
        simp only [okR,Bool.and_eq_true,Bool.or_eq_true] at this
        rcases this.2.1.1.2 with h|h
        · exact h
        · exact absurd (hdep j h) (hun j hj)
      · have:=hpre j hj
        simp only [okR,Bool.and_eq_true,Bool.or_eq_true,hoj,hoi] at this
        rcases this.2.1.1.1 with h|h
        · exact absurd (hrd j h) (hun j hj)
        · exact h
      · have:=hpre j hj
        simp only [okR,Bool.and_eq_true,Bool.or_eq_true,q1,q2,Bool.not_eq_true'] at this
        rcases this.2.1.2 with ((h|h)|h)|h
        · cases h
        · cases h
        · exact h
        · exact absurd (hdep j h) (hun j hj)
theorem reg_eager {E:List Nat} {T:List (List Nat)} (hm:P.follows .mixedOrders=true) (hB:eagerB ops pu ld gr E T=true) (h:EW P ops pu ld gr Q E a { w with drawn:=w.drawn+1 }) (hlen:E.length≤ops.size):RegA P ops true Q a w:=by
  have hB':=hB
  simp only [eagerB,Bool.and_eq_true] at hB'
  obtain ⟨⟨⟨⟨⟨hsel0,hE⟩,hall⟩,hpair⟩,hT0⟩,hon⟩:=hB'
  refine RegA.draw (any_of_EW hB ops.size _ a _ E (List.Sublist.refl E) (fun i hi => ?_) ⟨by simp,fun k hk => ?_⟩ hlen h)
  · constructor
    · intro _;simp [hi]
    · intro _
      have:=List.all_eq_true.1 hall i (List.mem_range.2 hi)
      simpa using this
  · rcases Nat.lt_or_ge k ops.size with h'|h'
    · simp [h'] at hk
    · simp [h'] at hk
theorem filter_lt {p q : Nat → Bool} {l : List Nat} (h : ∀ k, p k = true → q k = true) {i : Nat} (hi : i ∈ l) (hq : q i = true) (hp : p i = false) : (l.filter p).length < (l.filter q).length := by
  induction l with
  | nil=>cases hi
  | cons x l ih =>
    have hle:(l.filter p).length≤(l.filter q).length:=by
      have:∀ l:List Nat,(l.filter p).length≤(l.filter q).length:=by
        intro l
        induction l with
        | nil=>simp
        | cons y l ih2 =>
          rw [List.filter_cons,List.filter_cons]
          cases hpy:p y with
          | true=>rw [h y hpy];simpa using ih2
          | false=>cases q y<;>simp<;>omega
      exact this l
    rw [List.filter_cons,List.filter_cons]
    rcases List.mem_cons.1 hi with rfl|hi
    · rw [hq,hp];simp;omega
    · have:=ih hi
      cases hpx:p x with
      | true=>rw [h x hpx];simpa using this
      | false=>cases q x<;>simp<;>omega
theorem below_T {ops:Array Oper} {T:List (List Nat)} (hT:∀ i,i<ops.size→∀ j,inT T i j=true→wt ops i j=true ∨ ∃ k,wt ops i k=true∧k<i∧inT T k j=true) (hlt:∀ i k,i<ops.size→wt ops i k=true→k<i):∀ i,i<ops.size→∀ j,inT T i j=true→j<i:=by
  intro i
  induction i using Nat.strongRecOn with
  | _ i ih =>
    intro hi j hj
    rcases hT i hi j hj with h|⟨k,h1,h2,h3⟩
    · exact hlt i j hi h
    · have:=ih k h2 (by omega) j h3
      omega
theorem trans_T {ops:Array Oper} {T:List (List Nat)} (hT:∀ i,i<ops.size→∀ j,inT T i j=true→wt ops i j=true ∨ ∃ k,wt ops i k=true∧k<i∧inT T k j=true) (hc:∀ i k,i<ops.size→wt ops i k=true→k<i∧inT T i k=true∧∀ j,inT T k j=true→inT T i j=true) :
    ∀ i,i<ops.size→∀ k,inT T i k=true→∀ j,inT T k j=true→inT T i j=true:=by
  intro i
  induction i using Nat.strongRecOn with
  | _ i ih =>
    intro hi k hk j hj
    rcases hT i hi k hk with h|⟨m,h1,h2,h3⟩
    · exact (hc i k hi h).2.2 j hj
    · exact (hc i m hi h1).2.2 j (ih m h2 (by omega) k h3 j hj)
def EK (P:Program) (ops:Array Oper) (pu ld gr:Nat→Bool) (K:Act→World→Prop):List Nat→Act→World→Prop
  | [],a,w=>K a w
  | i::r,a,w=>eOp P ops pu ld gr i (EK P ops pu ld gr K r) a w
variable {K:Act→World→Prop}
theorem EK.front (hsel : ∀ (j : Nat) (o : Oper) cs b, ops[j]? = some o → o.op ≠ .select cs b) {i : Nat} {oi : Oper} (hi : ops[i]? = some oi) {post : List Nat} : ∀ (pre : List Nat) (a : Act) (w : World), (∀ j, j ∈ pre → pu j = true) → (∀ j oj, j ∈ pre → ops[j]? = some oj → oj.apart ops oi = true) →
    (pu i=false→gr i=false→∀ j,j ∈ pre→ld j=false)→EK P ops pu ld gr K (pre++i::post) a w→eOp P ops pu ld gr i (EK P ops pu ld gr K (pre++post)) a w
  | [],a,w,_,_,_,h=>h
  | j :: pre, a, w, h1, h2, h3, h => by
    have ih:=EK.front hsel hi (post:=post) pre
    have hj:pu j=true:=h1 j (by simp)
    have h':eOp P ops pu ld gr j (EK P ops pu ld gr K (pre++i::post)) a w:=h
    unfold eOp at h'
    cases hoj:ops[j]? with
    | none=>rw [hoj] at h';exact h'.elim
    | some oj =>
      rw [hoj] at h'
      simp only [hj,if_true] at h'
      have hap:=h2 j oj (by simp) hoj
      obtain ⟨p1,p2,p3⟩:=Oper.apart_spec hap
      have ih':=fun a w=>ih a w (fun k hk=>h1 k (by simp [hk])) (fun k ok hk=>h2 k ok (by simp [hk])) (fun q1 q2 k hk=>h3 q1 q2 k (by simp [hk]))
      have exi:∀ (v:Value),execOp (a.put oj.dst v).eval oi=execOp a.eval oi:=fun v=>execOp_put oi (fun cs b=>hsel i oi cs b hi) a oj.dst v p1
      have wai:∀ (v:Value),Region.wanted oi (yielded ops (a.put oj.dst v).tmps)=Region.wanted oi (yielded ops a.tmps):=fun v=>wanted_put oi a oj.dst v p1
      have exj:∀ (u:Value),execOp (a.put oi.dst u).eval oj=execOp a.eval oj:=fun u=>execOp_put oj (fun cs b=>hsel j oj cs b hoj) a oi.dst u p3
      have waj:∀ (u:Value),Region.wanted oj (yielded ops (a.put oi.dst u).tmps)=Region.wanted oj (yielded ops a.tmps):=fun u=>wanted_put oj a oi.dst u p3
      have com:∀ (v u:Value),(a.put oj.dst v).put oi.dst u=(a.put oi.dst u).put oj.dst v:=fun v u=>Act.put_comm a v u p2
      by_cases hw:Region.wanted oj (yielded ops a.tmps)=true
      · rw [if_pos hw] at h'
        obtain ⟨v,hy,hk⟩:=h'
        have hk2:=ih' _ _ hk
        unfold eOp at hk2 ⊢
        rw [hi] at hk2 ⊢
        simp only [wai] at hk2
        have back:∀ (u:Value) (w':World),(ld j=true→Same w w')→EK P ops pu ld gr K (pre++post) ((a.put oj.dst v).put oi.dst u) w'→EK P ops pu ld gr K (j::(pre++post)) (a.put oi.dst u) w':=by
          intro u w' hs hK
          show eOp P ops pu ld gr j (EK P ops pu ld gr K (pre++post)) (a.put oi.dst u) w'
          unfold eOp
          rw [hoj]
          simp only [waj,hw,hj,if_true]
          refine ⟨v,fun w'' hs2 => ?_,?_⟩
          · rw [exj];exact hy w'' (fun hl=>(hs hl).trans' (hs2 hl))
          · rw [← com];exact hK
        by_cases hwi:Region.wanted oi (yielded ops a.tmps)=true
        · simp only [hwi,if_true] at hk2 ⊢
          cases hpi:pu i with
          | true =>
            simp only [hpi,if_true] at hk2 ⊢
            obtain ⟨u,hu,hK⟩:=hk2
            refine ⟨u,fun w' hs => ?_,back u w (fun _=>Same.refl w) hK⟩
            have:=hu w' hs
            rwa [exi] at this
          | false =>
            simp only [hpi,Bool.false_eq_true,if_false] at hk2 ⊢
            refine (hk2.congr (exi v).symm).mono fun u w' ⟨hK,hg⟩=>⟨back u w' (fun hl => ?_) hK,hg⟩
            cases hg':gr i with
            | true=>exact hg hg'
            | false=>have:=h3 hpi hg' j (by simp);rw [this] at hl;cases hl
        · simp only [hwi] at hk2 ⊢
          exact back undef w (fun _=>Same.refl w) hk2
      · rw [if_neg hw] at h'
        have hk2:=ih' _ _ h'
        unfold eOp at hk2 ⊢
        rw [hi] at hk2 ⊢
        simp only [wai] at hk2
        have back:∀ (u:Value) (w':World),EK P ops pu ld gr K (pre++post) ((a.put oj.dst undef).put oi.dst u) w'→EK P ops pu ld gr K (j::(pre++post)) (a.put oi.dst u) w':=by
          intro u w' hK
          show eOp P ops pu ld gr j (EK P ops pu ld gr K (pre++post)) (a.put oi.dst u) w'
          unfold eOp
          rw [hoj]
          simp only [waj]
          rw [if_neg hw,← com];exact hK
        by_cases hwi:Region.wanted oi (yielded ops a.tmps)=true
        · simp only [hwi,if_true] at hk2 ⊢
          cases hpi:pu i with
          | true =>
            simp only [hpi,if_true] at hk2 ⊢
            obtain ⟨u,hu,hK⟩:=hk2
            refine ⟨u,fun w' hs => ?_,back u w hK⟩
            have:=hu w' hs
            rwa [exi] at this
          | false =>
            simp only [hpi,Bool.false_eq_true,if_false] at hk2 ⊢
            exact (hk2.congr (exi undef).symm).mono fun u w' ⟨hK,hg⟩=>⟨back u w' hK,hg⟩
        · simp only [hwi] at hk2 ⊢
          exact back undef w hk2
theorem EK_append (l2:List Nat):∀ l1:List Nat,EK P ops pu ld gr K (l1++l2)=EK P ops pu ld gr (EK P ops pu ld gr K l2) l1
  | []=>rfl
  | i::r=>by funext a w;show eOp P ops pu ld gr i (EK P ops pu ld gr K (r++l2)) a w=eOp P ops pu ld gr i (EK P ops pu ld gr (EK P ops pu ld gr K l2) r) a w;rw [EK_append l2 r]
theorem EK_congr {K K' : Act → World → Prop} (h : ∀ a w, K a w → K' a w) : ∀ (l : List Nat) (a : Act) (w : World), EK P ops pu ld gr K l a w → EK P ops pu ld gr K' l a w
  | [],a,w,hk=>h a w hk
  | i :: r, a, w, hk => by
    have ih:=EK_congr h r
    show eOp P ops pu ld gr i _ a w
    have hk':eOp P ops pu ld gr i (EK P ops pu ld gr K r) a w:=hk
    unfold eOp at hk' ⊢
    split
    · next he=>rw [he] at hk';exact hk'.elim
    · next o he =>
      rw [he] at hk'
      simp only at hk'
      split
      · next hw =>
        rw [if_pos hw] at hk'
        split
        · next hp=>rw [if_pos hp] at hk';obtain ⟨v,h1,h2⟩:=hk';exact ⟨v,h1,ih _ _ h2⟩
        · next hp=>rw [if_neg hp] at hk';exact hk'.mono fun u w' ⟨h1,h2⟩=>⟨ih _ _ h1,h2⟩
      · next hw=>rw [if_neg hw] at hk';exact ih _ _ hk'
inductive IT where
  | done
  | op (i:Nat) (t:IT)
  | alt (t u:IT)
def ET (P:Program) (ops:Array Oper) (pu ld gr:Nat→Bool) (K:Act→World→Prop):IT→Act→World→Prop
  | .done,a,w=>K a w
  | .op i t,a,w=>eOp P ops pu ld gr i (ET P ops pu ld gr K t) a w
  | .alt t u,a,w=>ET P ops pu ld gr K t a w∧ET P ops pu ld gr K u a w
def chainT:List Nat→IT→IT
  | [],t=>t
  | i::r,t=>.op i (chainT r t)
def brsT (f:Nat→IT):List Nat→IT
  | []=>.done
  | [e]=>f e
  | e::r=>.alt (f e) (brsT f r)
def efsT (n:Nat) (pu ld gr:Nat→Bool) (T:List (List Nat)):List Nat:=(List.range n).filter fun i => !pu i || (ld i && (List.range n).any fun k => !pu k && !gr k && !inT T i k && !inT T k i)
def depsIn (Ef:List Nat) (T:List (List Nat)) (X:List Nat) (i:Nat):Bool:=(T.getD i []).all fun k => !Ef.contains k || X.contains k
def enabT (Ef:List Nat) (T:List (List Nat)) (X:List Nat):List Nat:=Ef.filter fun e => !X.contains e && depsIn Ef T X e
def newpT (n:Nat) (Ef:List Nat) (T:List (List Nat)) (X:List Nat) (e:Nat):List Nat:=(List.range n).filter fun p => !Ef.contains p && inT T p e && depsIn Ef T (X++[e]) p
def pendT (n:Nat) (Ef:List Nat) (T:List (List Nat)):List Nat:=(List.range n).filter fun p => !Ef.contains p && depsIn Ef T [] p
def genT (n:Nat) (Ef:List Nat) (T:List (List Nat)):Nat→List Nat→List Nat→IT
  | 0,pend,_=>chainT pend .done
  | f+1,pend,X=>chainT pend (brsT (fun e=>.op e (genT n Ef T f (newpT n Ef T X e) (X++[e]))) (enabT Ef T X))
def okG (ops : Array Oper) (pu ld gr : Nat → Bool) (Ef : List Nat) (T : List (List Nat)) : Bool :=
  Region.noSelect ops && ops.all (fun o=>o.after.all fun e => !Region.binds .any e || decide (e.on<ops.size)) &&
  (List.range ops.size).all (fun i=>(List.range ops.size).all fun k => !wt ops i k || (decide (k<i) && inT T i k && (T.getD k []).all fun j=>inT T i j)) &&
  (List.range ops.size).all (fun i=>(T.getD i []).all fun j=>wt ops i j || (List.range ops.size).any fun k=>wt ops i k && decide (k<i) && inT T k j) &&
  Ef.all (fun i=>decide (i<ops.size)) && (List.range ops.size).all (fun j=>Ef.contains j || pu j) &&
  (List.range ops.size).all (fun j=>Ef.contains j || (List.range ops.size).all fun i=>i == j || inT T i j || inT T j i ||
    ((match ops[j]?,ops[i]? with|some oj,some oi=>oj.apart ops oi|_,_=>false) && ((pu i && !Ef.contains i) || gr i || !ld j)))
theorem ET_chain (t:IT):∀ l:List Nat,ET P ops pu ld gr K (chainT l t)=EK P ops pu ld gr (ET P ops pu ld gr K t) l
  | []=>rfl
  | i::r=>by funext a w;show eOp P ops pu ld gr i (ET P ops pu ld gr K (chainT r t)) a w=eOp P ops pu ld gr i (EK P ops pu ld gr (ET P ops pu ld gr K t) r) a w;rw [ET_chain t r]
theorem ET_brs {f:Nat→IT} {e:Nat}:∀ {l:List Nat} {a:Act} {w:World},ET P ops pu ld gr K (brsT f l) a w→e ∈ l→ET P ops pu ld gr K (f e) a w
  | [],a,w,_,he=>by cases he
  | [x],a,w,h,he=>by
    have:e=x:=by simpa using he
    subst this;exact h
  | x::y::r,a,w,h,he=>by
    have h':ET P ops pu ld gr K (f x) a w∧ET P ops pu ld gr K (brsT f (y::r)) a w:=h
    rcases List.mem_cons.1 he with rfl|he
    · exact h'.1
    · exact ET_brs h'.2 he
structure InvT (ops:Array Oper) (Ef:List Nat) (T:List (List Nat)) (listed:Array Bool) (pend X:List Nat):Prop where
  cl:Closed ops listed
  ef:∀ e,e ∈ Ef→(e ∈ X ↔ listed.getD e false=true)
  sub:∀ e,e ∈ X→e ∈ Ef
  nd:X.Nodup
  pe:∀ p,p ∈ pend ↔ p<ops.size∧p ∉ Ef∧listed.getD p false=false∧depsIn Ef T X p=true
  pn:pend.Nodup
  po:pend.Pairwise fun j i=>inT T j i=false
theorem depsIn_iff {Ef X:List Nat} {T:List (List Nat)} {i:Nat}:depsIn Ef T X i=true ↔ ∀ k,inT T i k=true→k ∈ Ef→k ∈ X:=by
  unfold depsIn inT
  rw [List.all_eq_true]
  constructor
  · intro h k h1 h2
    have:=h k (by simpa using h1)
    simp only [Bool.or_eq_true,Bool.not_eq_true'] at this
    rcases this with h3|h3
    · have:Ef.contains k=true:=by simpa using h2
      rw [this] at h3;cases h3
    · simpa using h3
  · intro h k hk
    simp only [Bool.or_eq_true,Bool.not_eq_true']
    by_cases h2:k ∈ Ef
    · right;simpa using h k (by simpa using hk) h2
    · left;simpa using h2
theorem any_of_ET {n : Nat} {Ef : List Nat} {T : List (List Nat)} (hn : n = ops.size) (hB : okG ops pu ld gr Ef T = true) : ∀ (fuel : Nat) (listed : Array Bool) (a : Act) (w : World) (pend X : List Nat) (f : Nat), InvT ops Ef T listed pend X → ((List.range ops.size).filter fun i => !listed.getD i false).length ≤ fuel → (Ef.filter fun e => !X.contains e).length ≤ f →
    ET P ops (fun i=>pu i && !Ef.contains i) ld gr (Q .normal) (genT n Ef T f pend X) a w→wpAny P .any ops Q fuel listed a w:=by
  subst hn
  simp only [okG,Bool.and_eq_true] at hB
  obtain ⟨⟨⟨⟨⟨⟨hsel0,hon⟩,hcomp⟩,hT0⟩,hElt⟩,hpu⟩,hpair⟩:=hB
  have hsel:=fun (j:Nat) (o:Oper) cs b=>Region.noSelect_spec hsel0 j o cs b
  have hElt':∀ i,i ∈ Ef→i<ops.size:=fun i hi=>by simpa using List.all_eq_true.1 hElt i hi
  have hcomp':∀ i k,i<ops.size→k<ops.size→wt ops i k=true→k<i∧inT T i k=true∧∀ j,inT T k j=true→inT T i j=true:=by
    intro i k hi hk h
    have h1:=List.all_eq_true.1 (List.all_eq_true.1 hcomp i (List.mem_range.2 hi)) k (List.mem_range.2 hk)
    simp only [h,Bool.not_true,Bool.false_or,Bool.and_eq_true,decide_eq_true_eq,List.all_eq_true] at h1
    exact ⟨h1.1.1,h1.1.2,fun j hj=>h1.2 j (by simpa [inT] using hj)⟩
  have hT:∀ i,i<ops.size→∀ j,inT T i j=true→wt ops i j=true ∨ ∃ k,wt ops i k=true∧k<i∧inT T k j=true:=by
    intro i hi j hj
    have:=List.all_eq_true.1 hT0 i (List.mem_range.2 hi)
    have h1:=List.all_eq_true.1 this j (by simpa [inT] using hj)
    simp only [Bool.or_eq_true,List.any_eq_true,Bool.and_eq_true,decide_eq_true_eq] at h1
    rcases h1 with h|⟨k,_,⟨h1,h2⟩,h3⟩
    · exact .inl h
    · exact .inr ⟨k,h1,h2,h3⟩
  have honlt:∀ i k,wt ops i k=true→k<ops.size:=by
    intro i k h
    unfold wt at h
    split at h
    · next oi hi =>
      obtain ⟨e,he,hb⟩:=Array.any_eq_true'.1 h
      simp only [Bool.and_eq_true,beq_iff_eq] at hb
      have h1:=Array.all_eq_true_iff_forall_mem.1 hon oi (Array.mem_of_getElem? hi)
      have h2:=Array.all_eq_true_iff_forall_mem.1 h1 e he
      simp only [hb.1,Bool.not_true,Bool.false_or,decide_eq_true_eq] at h2
      rw [← hb.2];exact h2
    · cases h
  have hpu':∀ j,j<ops.size→j ∉ Ef→pu j=true:=fun j hj he=>by
    have:=List.all_eq_true.1 hpu j (List.mem_range.2 hj)
    simp only [Bool.or_eq_true] at this
    rcases this with h|h
    · exact absurd (by simpa using h) he
    · exact h
  have hpr:∀ j i,j<ops.size→i<ops.size→j ∉ Ef→i ≠ j→inT T i j=false→inT T j i=false→∀ oj oi,ops[j]?=some oj→ops[i]?=some oi→oj.apart ops oi=true∧((pu i && !Ef.contains i)=false→gr i=false→ld j=false):=by
    intro j i hj hi he hne h1 h2 oj oi hoj hoi
    have h3:=List.all_eq_true.1 hpair j (List.mem_range.2 hj)
    simp only [Bool.or_eq_true] at h3
    rcases h3 with h3|h3
    · exact absurd (by simpa using h3) he
    · have h4:=List.all_eq_true.1 h3 i (List.mem_range.2 hi)
      simp only [hoj,hoi,h1,h2,Bool.or_eq_true,beq_iff_eq,Bool.and_eq_true,Bool.or_false] at h4
      rcases h4 with h4|h4
      · exact absurd h4 hne
      · refine ⟨h4.1,fun q1 q2 => ?_⟩
        rcases h4.2 with (h5|h5)|h5
        · simp only [h5.1,h5.2,Bool.and_self] at q1;cases q1
        · rw [h5] at q2;cases q2
        · simpa using h5
  intro fuel
  induction fuel with
  | zero =>
    intro listed a w pend X f hI hfu hf het
    have hall:∀ i,i<ops.size→listed.getD i false=true:=fun i hi=>by
      have h0:=List.eq_nil_of_length_eq_zero (Nat.le_zero.1 hfu)
      have:=List.filter_eq_nil_iff.1 h0 i (List.mem_range.2 hi)
      simpa using this
    have hp:pend=[]:=by
      cases pend with
      | nil=>rfl
      | cons p r =>
        obtain ⟨h1,_,h3,_⟩:=(hI.pe p).1 (by simp)
        rw [hall p h1] at h3;cases h3
    have he:enabT Ef T X=[]:=by
      unfold enabT
      rw [List.filter_eq_nil_iff]
      intro e hee h
      simp only [Bool.and_eq_true,Bool.not_eq_true'] at h
      have:=(hI.ef e hee).2 (hall e (hElt' e hee))
      have hc:X.contains e=true:=by simpa using this
      rw [hc] at h;cases h.1
    have hQ:Q .normal a w:=by
      cases f with
      | zero=>rw [hp] at het;exact het
      | succ f=>unfold genT at het;rw [hp,he] at het;exact het
    refine ⟨?_,hQ⟩
    rw [List.eq_nil_iff_forall_not_mem]
    intro i hi
    obtain ⟨h1,o,ho,_⟩:=mem_ready.1 hi
    have hlt:=(Array.getElem?_eq_some_iff.1 ho).1
    have:=hall i hlt
    have hs:i<listed.size:=by rw [hI.cl.size];exact hlt
    simp [hs] at h1 this
    rw [h1] at this;cases this
  | succ fuel ih =>
    intro listed a w pend X f hI hfu hf het
    have both:∀ i,i<ops.size→(listed.getD i true=false ↔ listed.getD i false=false):=by
      intro i hi
      have:i<listed.size:=by rw [hI.cl.size];exact hi
      simp [this]
    have rdy_of:∀ i,i ∈ Region.ready .any ops listed→i<ops.size∧Rdy ops listed i∧listed.getD i false=false:=by
      intro i hi
      obtain ⟨h1,o,ho,h2⟩:=mem_ready.1 hi
      have hlt:=(Array.getElem?_eq_some_iff.1 ho).1
      refine ⟨hlt,fun k hk => ?_,(both i hlt).1 h1⟩
      obtain ⟨e,he,hb,rfl⟩:=(wt_spec ho).1 hk
      exact h2 e he hb
    have depOk:∀ i,i<ops.size→Rdy ops listed i→depsIn Ef T X i=true:=fun i hi hr=>depsIn_iff.2 fun k hk hke=>(hI.ef k hke).2 (dep_listed hT hI.cl i hi hr k hk)
    -- what has been listed makes way
    have cl':∀ i,Rdy ops listed i→Closed ops (listed.setIfInBounds i true):=fun i hrd=>⟨by simp [hI.cl.size],fun k hk q hq=>by
      by_cases hki:i=k
      · subst hki;exact getD_set_true (hrd q hq)
      · rw [getD_set_ne false hki] at hk
        exact getD_set_true (hI.cl.rdy k hk q hq)⟩
    have lst:∀ i k,i<ops.size→((listed.setIfInBounds i true).getD k false=true ↔ k=i∨listed.getD k false=true):=fun i k hi=>by
      by_cases hki:i=k
      · subst hki
        have:i<listed.size:=by rw [hI.cl.size];exact hi
        simp [this]
      · rw [getD_set_ne false hki]
        constructor
        · exact .inr
        · rintro (h|h)
          · exact absurd h.symm hki
          · exact h
    have fewer:∀ i,i<ops.size→listed.getD i false=false→((List.range ops.size).filter fun k => !(listed.setIfInBounds i true).getD k false).length≤fuel:=fun i hi hl=>by
      have:((List.range ops.size).filter fun k => !(listed.setIfInBounds i true).getD k false).length<((List.range ops.size).filter fun k => !listed.getD k false).length:=by
        refine filter_lt (fun k h => ?_) (List.mem_range.2 hi) (by simpa using hl) ?_
        · have:=mt (lst i k hi).2 (by simpa using h)
          simp only [not_or] at this
          simpa using this.2
        · have:=(lst i i hi).2 (.inl rfl)
          simp [this]
      omega
    refine ⟨fun hr => ?_,fun i hi => ?_⟩
    · have hall:∀ i,i<ops.size→listed.getD i false=true:=by
        intro i
        induction i using Nat.strongRecOn with
        | _ i ihh =>
          intro hi
          cases hl:listed.getD i false with
          | true=>rfl
          | false =>
            exfalso
            have:i ∈ Region.ready .any ops listed:=by
              rw [mem_ready]
              refine ⟨(both i hi).2 hl,_,Array.getElem?_eq_getElem hi,fun e he hb => ?_⟩
              have hw:wt ops i e.on=true:=(wt_spec (Array.getElem?_eq_getElem hi)).2 ⟨e,he,hb,rfl⟩
              have hlt:=honlt i e.on hw
              exact ihh e.on (hcomp' i e.on hi hlt hw).1 hlt
            rw [hr] at this;cases this
      have hp:pend=[]:=by
        cases pend with
        | nil=>rfl
        | cons p r =>
          obtain ⟨h1,_,h3,_⟩:=(hI.pe p).1 (by simp)
          rw [hall p h1] at h3;cases h3
      have he:enabT Ef T X=[]:=by
        unfold enabT
        rw [List.filter_eq_nil_iff]
        intro e hee h
        simp only [Bool.and_eq_true,Bool.not_eq_true'] at h
        have:=(hI.ef e hee).2 (hall e (hElt' e hee))
        have hc:X.contains e=true:=by simpa using this
        rw [hc] at h;cases h.1
      cases f with
      | zero=>rw [hp] at het;exact het
      | succ f=>unfold genT at het;rw [hp,he] at het;exact het
    · obtain ⟨hlt, hrd, hnl⟩ := rdy_of i hi
      have hoi:ops[i]?=some ops[i]:=Array.getElem?_eq_getElem hlt
      have hdep:=dep_listed hT hI.cl i hlt hrd
      have front:∀ (pre post:List Nat) (K:Act→World→Prop),(∀ j,j ∈ pre→j ∈ pend)→(∀ j,j ∈ pre→inT T j i=false)→i ∉ pre→EK P ops (fun i=>pu i && !Ef.contains i) ld gr K (pre++i::post) a w →
          eOp P ops (fun i=>pu i && !Ef.contains i) ld gr i (EK P ops (fun i=>pu i && !Ef.contains i) ld gr K (pre++post)) a w:=by
        intro pre post K hpre hord hni h
        have hx:∀ j,j ∈ pre→j<ops.size∧j ∉ Ef∧listed.getD j false=false∧inT T i j=false:=fun j hj=>by
          obtain ⟨h1,h2,h3,_⟩:=(hI.pe j).1 (hpre j hj)
          refine ⟨h1,h2,h3,?_⟩
          cases hh:inT T i j with
          | false=>rfl
          | true=>rw [hdep j hh] at h3;cases h3
        refine EK.front hsel hoi pre a w (fun j hj => ?_) (fun j oj hj hoj => ?_) (fun q1 q2 j hj => ?_) h
        · obtain ⟨h1,h2,_⟩:=hx j hj
          simp [hpu' j h1 h2,h2]
        · obtain ⟨h1,h2,_,h4⟩:=hx j hj
          exact (hpr j i h1 hlt h2 (fun e=>hni (e ▸ hj)) h4 (hord j hj) oj ops[i] hoj hoi).1
        · obtain ⟨h1,h2,_,h4⟩:=hx j hj
          exact (hpr j i h1 hlt h2 (fun e=>hni (e ▸ hj)) h4 (hord j hj) ops[j] ops[i] (Array.getElem?_eq_getElem h1) hoi).2 q1 q2
      by_cases hie:i ∈ Ef
      · -- it does something
        have hiX:i ∉ X:=fun h=>by rw [(hI.ef i hie).1 h] at hnl;cases hnl
        have hen:i ∈ enabT Ef T X:=by
          unfold enabT
          rw [List.mem_filter]
          refine ⟨hie,?_⟩
          have:X.contains i=false:=by simpa using hiX
          rw [this,depOk i hlt hrd];rfl
        cases f with
        | zero =>
          exfalso
          have h0:=List.eq_nil_of_length_eq_zero (Nat.le_zero.1 hf)
          have:=List.filter_eq_nil_iff.1 h0 i hie
          simp [hiX] at this
        | succ f =>
          unfold genT at het
          rw [ET_chain] at het
          have h1:EK P ops (fun i=>pu i && !Ef.contains i) ld gr (ET P ops (fun i=>pu i && !Ef.contains i) ld gr (Q .normal) (genT ops.size Ef T f (newpT ops.size Ef T X i) (X++[i]))) (pend++i::[]) a w:=by
            rw [EK_append]
            exact EK_congr (fun a' w' h=>(ET_brs h hen:ET P ops _ ld gr (Q .normal) (.op i _) a' w')) _ _ _ het
          have hni:i ∉ pend:=fun h=>((hI.pe i).1 h).2.1 hie
          have hord:∀ j,j ∈ pend→inT T j i=false:=fun j hj=>by
            cases hh:inT T j i with
            | false=>rfl
            | true=>exact absurd (depsIn_iff.1 ((hI.pe j).1 hj).2.2.2 i hh hie) hiX
          have h2:=front pend [] _ (fun j h=>h) hord hni h1
          rw [List.append_nil] at h2
          refine wpOp_of_eOp (fun a' w' h=>ih (listed.setIfInBounds i true) a' w' (pend++newpT ops.size Ef T X i) (X++[i]) f ?_ (fewer i hlt hnl) ?_ ?_) h2
          · -- the invariant
            have notl:∀ p,p ∈ newpT ops.size Ef T X i→p<ops.size∧p ∉ Ef∧inT T p i=true∧depsIn Ef T (X++[i]) p=true:=fun p hp=>by
              unfold newpT at hp
              rw [List.mem_filter] at hp
              simp only [Bool.and_eq_true,Bool.not_eq_true'] at hp
              exact ⟨List.mem_range.1 hp.1,by simpa using hp.2.1.1,hp.2.1.2,hp.2.2⟩
            refine ⟨cl' i hrd,fun e he => ?_,fun e he => ?_,?_,fun p => ?_,?_,?_⟩
            · rw [lst i e hlt,← hI.ef e he,List.mem_append,List.mem_singleton,Or.comm]
            · rcases List.mem_append.1 he with h|h
              · exact hI.sub e h
              · have:e=i:=by simpa using h
                rw [this];exact hie
            · rw [List.nodup_append]
              exact ⟨hI.nd,by simp,fun x hx y hy e=>hiX (by have h:y=i:=(by simpa using hy);rw [← h,← e];exact hx)⟩
            · rw [List.mem_append, hI.pe p]
              have hl:(listed.setIfInBounds i true).getD p false=false ↔ p ≠ i∧listed.getD p false=false:=by
                have:=lst i p hlt
                cases h1:(listed.setIfInBounds i true).getD p false with
                | true =>
                  rw [h1] at this
                  simp only [true_iff] at this
                  simp only [Bool.true_eq_false,false_iff]
                  rintro ⟨q1,q2⟩
                  rcases this with h|h
                  · exact q1 h
                  · rw [h] at q2;cases q2
                | false =>
                  rw [h1] at this
                  simp only [Bool.false_eq_true,false_iff,not_or] at this
                  simp only [true_iff]
                  exact ⟨this.1,by simpa using this.2⟩
              constructor
              · rintro (⟨h1,h2,h3,h4⟩|h)
                · refine ⟨h1,h2,hl.2 ⟨fun e=>h2 (e ▸ hie),h3⟩,depsIn_iff.2 fun k hk hke=>List.mem_append_left _ (depsIn_iff.1 h4 k hk hke)⟩
                · obtain ⟨h1,h2,h3,h4⟩:=notl p h
                  refine ⟨h1,h2,hl.2 ⟨fun e=>h2 (e ▸ hie),?_⟩,h4⟩
                  cases hh:listed.getD p false with
                  | false=>rfl
                  | true =>
                    have:=dep_listed hT hI.cl p h1 (hI.cl.rdy p hh) i h3
                    rw [this] at hnl;cases hnl
              · rintro ⟨h1, h2, h3, h4⟩
                obtain ⟨_,h3'⟩:=hl.1 h3
                by_cases hd:depsIn Ef T X p=true
                · exact .inl ⟨h1,h2,h3',hd⟩
                · right
                  unfold newpT
                  rw [List.mem_filter]
                  refine ⟨List.mem_range.2 h1,?_⟩
                  have hc:Ef.contains p=false:=by simpa using h2
                  have hin:inT T p i=true:=by
                    cases hh:inT T p i with
                    | true=>rfl
                    | false =>
                      exact absurd (depsIn_iff.2 fun k hk hke=>by
                        have:=depsIn_iff.1 h4 k hk hke
                        rcases List.mem_append.1 this with h|h
                        · exact h
                        · have:k=i:=by simpa using h
                          rw [this,hh] at hk;cases hk) hd
                  rw [hc,hin,h4];rfl
            · rw [List.nodup_append]
              refine ⟨hI.pn,List.Nodup.sublist List.filter_sublist List.nodup_range,fun x hx y hy => ?_⟩
              rintro rfl
              have:=hord x hx
              rw [(notl x hy).2.2.1] at this;cases this
            · rw [List.pairwise_append]
              refine ⟨hI.po,?_,fun j hj k hk => ?_⟩
              · unfold newpT
                refine List.Pairwise.sublist List.filter_sublist ?_
                have:=List.pairwise_lt_range (n:=ops.size)
                refine List.Pairwise.imp_of_mem (fun {j k} hj hk h => ?_) this
                have hj':=List.mem_range.1 hj
                cases hh:inT T j k with
                | false=>rfl
                | true=>exact absurd (below_T hT (fun i k h1 h2=>(hcomp' i k h1 (honlt i k h2) h2).1) j hj' k hh) (by omega)
              · cases hh:inT T j k with
                | false=>rfl
                | true =>
                  obtain ⟨q1,q2,q3,q4⟩:=notl k hk
                  have:=trans_T hT (fun i k h1 h2=>(hcomp' i k h1 (honlt i k h2) h2)) j ((hI.pe j).1 hj).1 k hh i q3
                  rw [hord j hj] at this;cases this
          · have:(Ef.filter fun e => !(X++[i]).contains e).length<(Ef.filter fun e => !X.contains e).length:=by
              refine filter_lt (fun k h => ?_) hie (by simpa using hiX) (by simp)
              simp only [Bool.not_eq_true',List.contains_eq_mem,decide_eq_false_iff_not,List.mem_append,not_or] at h ⊢
              exact h.1
            omega
          · have:EK P ops (fun i=>pu i && !Ef.contains i) ld gr (ET P ops (fun i=>pu i && !Ef.contains i) ld gr (Q .normal) (genT ops.size Ef T f (newpT ops.size Ef T X i) (X++[i]))) pend a' w':=h
            cases f with
            | zero=>unfold genT at this ⊢;rw [ET_chain] at this ⊢;rw [EK_append];exact this
            | succ f=>unfold genT at this ⊢;rw [ET_chain] at this ⊢;rw [EK_append];exact this
      · -- it reads
        have hip:i ∈ pend:=(hI.pe i).2 ⟨hlt,hie,hnl,depOk i hlt hrd⟩
        obtain ⟨pre,post,rfl⟩:=List.append_of_mem hip
        have gx : ∃ t,∀ pend,genT ops.size Ef T f pend X=chainT pend t:=by
          cases f with
          | zero=>exact ⟨.done,fun _=>rfl⟩
          | succ f=>exact ⟨_,fun _=>rfl⟩
        obtain ⟨t,ht⟩:=gx
        rw [ht,ET_chain] at het
        have hpw:=List.pairwise_append.1 hI.po
        have hnd:=List.nodup_append.1 hI.pn
        have hnc:=List.nodup_cons.1 hnd.2.1
        have h2:=front pre post _ (fun j h=>by simp [h]) (fun j hj=>hpw.2.2 j hj i (by simp)) (fun h=>hnd.2.2 i h i (by simp) rfl) het
        refine wpOp_of_eOp (fun a' w' h=>ih (listed.setIfInBounds i true) a' w' (pre++post) X f ?_ (fewer i hlt hnl) hf ?_) h2
        · have sl:(pre++post).Sublist (pre++i::post):=List.Sublist.append_left (List.sublist_cons_self i post) pre
          refine ⟨cl' i hrd,fun e he => ?_,hI.sub,hI.nd,fun p => ?_,hI.pn.sublist sl,hI.po.sublist sl⟩
          · rw [lst i e hlt,← hI.ef e he]
            constructor
            · exact .inr
            · rintro (h|h)
              · exact absurd (h ▸ he) hie
              · exact h
          · have h0:=hI.pe p
            have hl:=lst i p hlt
            constructor
            · intro hp
              have hp':p ∈ pre++i::post:=sl.mem hp
              obtain ⟨h1,h2,h3,h4⟩:=h0.1 hp'
              refine ⟨h1,h2,?_,h4⟩
              have hne:p ≠ i:=by
                rintro rfl
                rcases List.mem_append.1 hp with h|h
                · exact hnd.2.2 p h p (by simp) rfl
                · exact hnc.1 h
              cases hh:(listed.setIfInBounds i true).getD p false with
              | false=>rfl
              | true =>
                rcases hl.1 hh with h|h
                · exact absurd h hne
                · rw [h] at h3;cases h3
            · rintro ⟨h1,h2,h3,h4⟩
              have h3':listed.getD p false=false:=by
                cases hh:listed.getD p false with
                | false=>rfl
                | true=>rw [hl.2 (.inr hh)] at h3;cases h3
              have hne:p ≠ i:=by rintro rfl;rw [hl.2 (.inl rfl)] at h3;cases h3
              have:=h0.2 ⟨h1,h2,h3',h4⟩
              simp only [List.mem_append,List.mem_cons] at this ⊢
              rcases this with h|h|h
              · exact .inl h
              · exact absurd h hne
              · exact .inr h
        · rw [ht,ET_chain];exact h
theorem reg_tree {Ef : List Nat} {T : List (List Nat)} (hm : P.follows .mixedOrders = true) (hB : okG ops pu ld gr Ef T = true)
    (h:ET P ops (fun i=>pu i && !Ef.contains i) ld gr (Q .normal) (genT ops.size Ef T Ef.length (pendT ops.size Ef T) []) a { w with drawn:=w.drawn+1 }):RegA P ops true Q a w:=by
  refine RegA.draw (any_of_ET rfl hB ops.size _ a _ (pendT ops.size Ef T) [] Ef.length ⟨⟨by simp,fun k hk => ?_⟩,fun e he => ?_,fun e he=>by simp at he,by simp,fun p => ?_,?_,?_⟩ ?_ (List.length_filter_le _ _) h)
  · rcases Nat.lt_or_ge k ops.size with h'|h'
    · simp [h'] at hk
    · simp [h'] at hk
  · simp only [okG,Bool.and_eq_true] at hB
    have hElt:e<ops.size:=by simpa using List.all_eq_true.1 hB.1.1.2 e he
    simp [hElt]
  · unfold pendT
    rw [List.mem_filter,List.mem_range]
    simp only [Bool.and_eq_true,Bool.not_eq_true']
    constructor
    · rintro ⟨h1,h2,h3⟩
      exact ⟨h1,by simpa using h2,by simp [h1],h3⟩
    · rintro ⟨h1,h2,h3,h4⟩
      exact ⟨h1,by simpa using h2,h4⟩
  · exact List.Nodup.sublist List.filter_sublist List.nodup_range
  · simp only [okG,Bool.and_eq_true] at hB
    obtain ⟨⟨⟨⟨⟨⟨hsel0,hon⟩,hcomp⟩,hT0⟩,hElt⟩,hpu⟩,hpair⟩:=hB
    have honlt:∀ i k,wt ops i k=true→k<ops.size:=by
      intro i k h
      unfold wt at h
      split at h
      · next oi hi =>
        obtain ⟨e,he,hb⟩:=Array.any_eq_true'.1 h
        simp only [Bool.and_eq_true,beq_iff_eq] at hb
        have h1:=Array.all_eq_true_iff_forall_mem.1 hon oi (Array.mem_of_getElem? hi)
        have h2:=Array.all_eq_true_iff_forall_mem.1 h1 e he
        simp only [hb.1,Bool.not_true,Bool.false_or,decide_eq_true_eq] at h2
        rw [← hb.2];exact h2
      · cases h
    have hT:∀ i,i<ops.size→∀ j,inT T i j=true→wt ops i j=true ∨ ∃ k,wt ops i k=true∧k<i∧inT T k j=true:=by
      intro i hi j hj
      have:=List.all_eq_true.1 hT0 i (List.mem_range.2 hi)
      have h1:=List.all_eq_true.1 this j (by simpa [inT] using hj)
      simp only [Bool.or_eq_true,List.any_eq_true,Bool.and_eq_true,decide_eq_true_eq] at h1
      rcases h1 with h|⟨k,_,⟨h1,h2⟩,h3⟩
      · exact .inl h
      · exact .inr ⟨k,h1,h2,h3⟩
    have hcomp':∀ i k,i<ops.size→wt ops i k=true→k<i:=by
      intro i k hi h
      have h1:=List.all_eq_true.1 (List.all_eq_true.1 hcomp i (List.mem_range.2 hi)) k (List.mem_range.2 (honlt i k h))
      simp only [h,Bool.not_true,Bool.false_or,Bool.and_eq_true,decide_eq_true_eq] at h1
      exact h1.1.1
    unfold pendT
    refine List.Pairwise.sublist List.filter_sublist ?_
    refine List.Pairwise.imp_of_mem (fun {j k} hj hk h => ?_) (List.pairwise_lt_range (n:=ops.size))
    cases hh:inT T j k with
    | false=>rfl
    | true=>exact absurd (below_T hT hcomp' j (List.mem_range.1 hj) k hh) (by omega)
  · exact Nat.le_trans (List.length_filter_le _ _) (by simp)
end
end Go.Dm
