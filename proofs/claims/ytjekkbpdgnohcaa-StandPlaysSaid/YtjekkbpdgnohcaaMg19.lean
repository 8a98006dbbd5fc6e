/-
 Texts of this claim, one behind another.
-/
import Derived.Test.YtjekkbpdgnohcaaMg18
import Derived.Test.YtjekkbpdgnohcaaMg13
set_option linter.unusedSimpArgs false
set_option linter.unnecessarySimpa false
set_option linter.unusedVariables false
set_option linter.defProp false
namespace Go.Proofs.Ytjekkbpdgnohcaa
open Go.Dm
inductive Gr (g:Grammar):List Int→List Int→List (List D)→List Int→List Int→Prop
  | nil {st:List Int}:Gr g [] st [] [] st
  | sym {x:Int} {s st w r:List Int} {ks:List (List D)} (hx:x<g.k) (h:Gr g s st ks w r):Gr g (x::s) st ([iv .i64 (-1),.nl,.sl 1 (i64s [x])]::ks) (x::w) r
  | name {x:Int} {q:Nat} {s st m w1 w2 r:List Int} {k1 k2:List (List D)} (hx:¬ x<g.k) (hq:RuleAt g x q) (h1:Gr g (g.rules.getD q default).right st k1 w1 m) (h2:Gr g s m k2 w2 r):Gr g (x::s) ((q:Int)::st) ([iv .i64 q,.sl 3 k1,.sl 1 (i64s w1)]::k2) (w1++w2) r
theorem Gr.det {g:Grammar} {s st w r:List Int} {ks:List (List D)} (h:Gr g s st ks w r):∀ {ks':List (List D)} {w' r':List Int},Gr g s st ks' w' r'→ks=ks'∧w=w'∧r=r':=by
  induction h with
  | nil=>intro ks' w' r' h';cases h';exact ⟨rfl,rfl,rfl⟩
  | sym hx h ih =>
    intro ks' w' r' h'
    cases h' with
    | sym _ h2=>obtain ⟨e1,e2,e3⟩:=ih h2;exact ⟨by rw [e1],by rw [e2],e3⟩
    | name hn=>exact absurd hx hn
  | @name x q s st m w1 w2 r k1 k2 hx hq h1 h2 ih1 ih2 =>
    intro ks' w' r' h'
    generalize hS:(q:Int)::st=S at h'
    cases h' with
    | sym hn=>exact absurd hn hx
    | @name _ q' _ st' m' w1' w2' _ k1' k2' _ hq' h1' h2' =>
      simp only [List.cons.injEq,Int.natCast_inj] at hS
      obtain ⟨rfl,rfl⟩:=hS
      obtain ⟨e1,e2,e3⟩:=ih1 h1'
      subst e3
      obtain ⟨f1,f2,f3⟩:=ih2 h2'
      exact ⟨by rw [e1,e2,f1],by rw [e2,f2],f3⟩
theorem Gr.len {g:Grammar} {s st w r:List Int} {ks:List (List D)} (h:Gr g s st ks w r):ks.length=s.length:=by
  induction h with
  | nil=>rfl
  | sym _ _ ih=>simp [ih]
  | name _ _ _ _ _ ih2=>simp [ih2]
theorem Gr.app {g:Grammar} {s st w m:List Int} {ks:List (List D)} (h:Gr g s st ks w m):∀ {s2 k2 w2 r},Gr g s2 m k2 w2 r→Gr g (s++s2) st (ks++k2) (w++w2) r:=by
  induction h with
  | nil=>intro _ _ _ _ h2;exact h2
  | sym hx h ih=>intro _ _ _ _ h2;exact .sym hx (ih h2)
  | name hx hq h1 h2 ih1 ih2 =>
    intro _ _ _ _ h3
    rw [List.append_assoc]
    exact .name hx hq h1 (ih2 h3)
theorem Gr.short {g:Grammar} {s st w r:List Int} {ks:List (List D)} (h:Gr g s st ks w r):r.length≤st.length:=by
  induction h with
  | nil=>exact Nat.le_refl _
  | sym _ _ ih=>exact ih
  | name _ _ _ _ ih1 ih2=>rw [List.length_cons];omega
theorem Gr.wlen {g:Grammar} (hl:∀ q,q<g.rules.length→(g.rules.getD q default).right.length≤4) {s st w r:List Int} {ks:List (List D)} (h:Gr g s st ks w r):w.length+4 * r.length≤s.length+4 * st.length:=by
  induction h with
  | nil=>simp
  | sym _ _ ih=>simp only [List.length_cons];omega
  | name _ hq _ _ ih1 ih2 =>
    have:=hl _ (rule_lt hq)
    simp only [List.length_cons,List.length_append];omega
inductive Tg (g:Grammar) (w:List Int):List Int→Nat→List Nat→List Int→Nat→List (List D)→Prop
  | nil (i:Nat):Tg g w [] i [] [] 0 []
  | sym {x:Int} {l:List Int} {i:Nat} {es:List Nat} {st:List Int} {K:Nat} {ks:List (List D)} (hx:x<g.k) (hw:w.getD i 0=x) (h:Tg g w l (i+1) es st K ks):Tg g w (x::l) i ((i+1)::es) st K ([iv .i64 (-1),.nl,.sl 1 (i64s [x])]::ks)
  | name {x:Int} {l:List Int} {i e:Nat} {es:List Nat} {q c:Nat} {s1 s2 w1:List Int} {K1 K2:Nat} {k1 k2:List (List D)} (hx:¬ x<g.k) (hq:RuleAt g x q) (hc:c<(cutN ((g.rules.getD q default).right.length - 1) i e).length) (hw:i+w1.length=e)
      (h1:Tg g w (g.rules.getD q default).right i ((cutN ((g.rules.getD q default).right.length - 1) i e).getD c []) s1 K1 k1) (h2:Tg g w l e es s2 K2 k2) :
      Tg g w (x::l) i (e::es) ((q:Int)::s1++s2) ((rlB g w x i e q+sumL (prT g w (g.rules.getD q default).right i) ((cutN ((g.rules.getD q default).right.length - 1) i e).take c)+K1) * prT g w l e es+K2) ([iv .i64 q,.sl 3 k1,.sl 1 (i64s w1)]::k2)
theorem Tg.tk {g:Grammar} {w:List Int} {l:List Int} {i:Nat} {es:List Nat} {st:List Int} {K:Nat} {ks:List (List D)} (h:Tg g w l i es st K ks):Tk g w l i es st K:=by
  induction h with
  | nil=>exact .nil _
  | sym hx hw _ ih=>exact .sym hx hw ih
  | name hx hq hc _ _ _ ih1 ih2=>exact .name hx hq hc ih1 ih2
theorem Tg.len {g:Grammar} {w:List Int} {l:List Int} {i:Nat} {es:List Nat} {st:List Int} {K:Nat} {ks:List (List D)} (h:Tg g w l i es st K ks):es.length=l.length∧ks.length=l.length:=by
  induction h with
  | nil=>exact ⟨rfl,rfl⟩
  | sym _ _ _ ih=>exact ⟨by simp [ih.1],by simp [ih.2]⟩
  | name _ _ _ _ _ _ _ ih=>exact ⟨by simp [ih.1],by simp [ih.2]⟩
def SI:Nat→List Nat→Prop
  | _,[]=>True
  | i,e::es=>i<e∧SI e es
theorem SI.le:∀ {es:List Nat} {i:Nat},SI i es→i+es.length≤stA i es es.length
  | [],i,_=>by simp [stA]
  | e::es,i,h=>by
    have:=h.2.le
    rw [List.length_cons,stA_cons]
    have:=h.1
    omega
theorem cutN_mem:∀ {n i j:Nat} {es:List Nat},es.length=n+1→SI i es→stA i es es.length=j→es ∈ cutN n i j
  | 0,i,j,[e],_,_,h=>by
    have:e=j:=h
    subst this
    simp [cutN]
  | n+1,i,j,e::es,hl,hs,h=>by
    rw [List.length_cons,stA_cons] at h
    have h1:=hs.2.le
    have hl':es.length=n+1:=by simpa using hl
    have h2:=hs.1
    simp only [cutN,List.mem_flatMap,List.mem_map,List.mem_range]
    exact ⟨e - (i+1),by omega,es,by rw [show i+1+(e - (i+1))=e by omega];exact cutN_mem hl' hs.2 h,by rw [show i+1+(e - (i+1))=e by omega]⟩
  | 0,_,_,[],hl,_,_=>by simp at hl
  | 0,_,_,_::_::_,hl,_,_=>by simp at hl
  | n+1,_,_,[],hl,_,_=>by simp at hl
theorem sl_app {w a b:List Int} {i:Nat} (h:(w.drop i).take (a++b).length=a++b):(w.drop i).take a.length=a∧(w.drop (i+a.length)).take b.length=b:=by
  rw [List.length_append] at h
  have h2:w.drop i=a++(b++(w.drop i).drop (a.length+b.length)):=by
    conv=>lhs;rw [← List.take_append_drop (a.length+b.length) (w.drop i),h]
    rw [List.append_assoc]
  constructor
  · rw [h2,List.take_left]
  · rw [← List.drop_drop,h2,List.drop_left,List.take_left]
theorem Gr.tg {g:Grammar} {w:List Int} (hp:Proper g) {l st wd r:List Int} {ks:List (List D)} (h:Gr g l st ks wd r):∀ i,(w.drop i).take wd.length=wd → ∃ es st1 K,st=st1++r∧Tg g w l i es st1 K ks∧stA i es es.length=i+wd.length∧SI i es:=by
  induction h with
  | nil=>intro i _;exact ⟨[],[],0,rfl,.nil i,rfl,trivial⟩
  | @sym x s st wd r ks hx h ih =>
    intro i hw
    obtain ⟨h1,h2⟩:=sl_app (a:=[x]) (b:=wd) (i:=i) hw
    obtain ⟨es,st1,K,e1,e2,e3,e4⟩:=ih (i+1) h2
    have hwi:w.getD i 0=x:=by
      have:=congrArg (fun l:List Int=>l.getD 0 0) h1
      simp only [List.length_singleton,List.getD_cons_zero] at this
      rw [← this]
      simp [List.getD]
    refine ⟨(i+1)::es,st1,K,e1,.sym hx hwi e2,?_,by omega,e4⟩
    rw [List.length_cons,stA_cons,e3,List.length_cons];omega
  | @name x q s st m w1 w2 r k1 k2 hx hq h1 h2 ih1 ih2 =>
    intro i hw
    obtain ⟨a1,a2⟩:=sl_app hw
    obtain ⟨es1,s1,K1,b1,b2,b3,b4⟩:=ih1 i a1
    obtain ⟨es2,s2,K2,c1,c2,c3,c4⟩:=ih2 _ a2
    have hl:=b2.len.1
    have hne:=List.length_pos_iff.2 (right_ne hp (rule_lt hq))
    have hm:=cutN_mem (n:=(g.rules.getD q default).right.length - 1) (by omega) b4 b3
    obtain ⟨c,hc,he⟩:=List.getElem_of_mem hm
    have he2:(cutN ((g.rules.getD q default).right.length - 1) i (i+w1.length)).getD c []=es1:=by rw [← he];exact getD_idx hc
    refine ⟨(i+w1.length)::es2,(q:Int)::s1++s2,_,by rw [b1,c1];simp,.name hx hq hc rfl (by rw [he2];exact b2) c2,?_,?_,c4⟩
    · rw [List.length_cons,stA_cons,c3,List.length_append];omega
    · have:=b4.le
      rw [b3] at this
      omega
theorem Tk.gr {g:Grammar} {w:List Int} {l:List Int} {i:Nat} {es:List Nat} {st:List Int} {K:Nat} (h:Tk g w l i es st K):stA i es es.length≤w.length→i≤stA i es es.length∧∀ r,∃ ks,Gr g l (st++r) ks ((w.drop i).take (stA i es es.length - i)) r:=by
  induction h with
  | nil i=>intro _;exact ⟨Nat.le_refl _,fun r=>⟨[],by simp [stA];exact .nil⟩⟩
  | @sym x l i es st K hx hw h ih =>
    intro hle
    rw [List.length_cons,stA_cons] at hle ⊢
    obtain ⟨h1,h2⟩:=ih hle
    refine ⟨by omega,fun r => ?_⟩
    obtain ⟨ks,hk⟩:=h2 r
    refine ⟨[iv .i64 (-1),.nl,.sl 1 (i64s [x])]::ks,?_⟩
    have e:(w.drop i).take (stA (i+1) es es.length - i)=x::(w.drop (i+1)).take (stA (i+1) es es.length - (i+1)):=by
      rw [dropC (d:=0) (show i<w.length by omega),hw,show stA (i+1) es es.length - i=(stA (i+1) es es.length - (i+1))+1 by omega,List.take_succ_cons]
    rw [e]
    exact .sym hx hk
  | @name x l i e es q c s1 s2 K1 K2 hx hq hc h1 h2 ih1 ih2 =>
    intro hle
    rw [List.length_cons,stA_cons] at hle ⊢
    obtain ⟨a1,a2⟩:=ih2 hle
    rw [last_stA (cutN_last (getD_cut hc))] at ih1
    obtain ⟨b1,b2⟩:=ih1 (by omega)
    refine ⟨by omega,fun r => ?_⟩
    obtain ⟨k2,hk2⟩:=a2 r
    obtain ⟨k1,hk1⟩:=b2 (s2++r)
    refine ⟨[iv .i64 q,.sl 3 k1,.sl 1 (i64s ((w.drop i).take (e - i)))]::k2,?_⟩
    have ew:(w.drop i).take (stA e es es.length - i)=(w.drop i).take (e - i)++(w.drop e).take (stA e es es.length - e):=by
      rw [show stA e es es.length - i=(e - i)+(stA e es es.length - e) by omega,List.take_add,List.drop_drop,show i+(e - i)=e by omega]
    rw [ew,List.cons_append,List.cons_append,List.append_assoc]
    exact .name hx hq hk1 hk2
theorem tg_uncons {g:Grammar} {w:List Int} {x:Int} {l:List Int} {i:Nat} {es:List Nat} {st:List Int} {K:Nat} {ks:List (List D)} (h:Tg g w (x::l) i es st K ks) : ∃ e es' s1 s2 n K2 k1 k2,es=e::es'∧st=s1++s2∧ks=k1::k2∧K=n * prT g w l e es'+K2∧Tg g w [x] i [e] s1 n [k1]∧Tg g w l e es' s2 K2 k2:=by
  cases h with
  | @sym _ _ _ es st _ ks hx hw h=>exact ⟨_,_,[],st,0,K,_,_,rfl,rfl,rfl,by omega,.sym hx hw (.nil _),h⟩
  | @name _ _ _ e es q c s1 s2 w1 K1 K2 k1 k2 hx hq hc hw h1 h2 =>
    exact ⟨_,_,_,s2,_,K2,_,_,rfl,rfl,rfl,rfl,by have:=Tg.name hx hq hc hw h1 (.nil e);rwa [List.append_nil,prT_nil,Nat.mul_one,Nat.add_zero] at this,h2⟩
theorem tg_row {g:Grammar} {w:List Int} {x:Int} {i e:Nat} {st:List Int} {K:Nat} {row:List D} (h:Tg g w [x] i [e] st K [row]) : ∃ q kk wd,row=[iv .i64 q,kk,.sl 1 (i64s wd)]∧i+wd.length=e∧(kk=.nl ∨ ∃ es,kk=.sl 3 es):=by
  cases h with
  | sym hx hw h=>exact ⟨-1,.nl,[x],rfl,rfl,.inl rfl⟩
  | @name _ _ _ _ _ q c s1 s2 w1 K1 K2 k1 k2 hx hq hc hw h1 h2=>exact ⟨q,_,w1,rfl,hw,.inr ⟨_,rfl⟩⟩
theorem tg_at {g:Grammar} {w:List Int}:∀ {l:List Int} {i:Nat} {es:List Nat} {st:List Int} {K:Nat} {ks:List (List D)},Tg g w l i es st K ks→∀ m,m<l.length → ∃ s1 n,Tg g w [l.getD m 0] (stA i es m) [es.getD m 0] s1 n [ks.getD m []]
  | [],_,_,_,_,_,_,m,hm=>absurd hm (Nat.not_lt_zero _)
  | x::l,i,es,st,K,ks,h,m,hm=>by
    obtain ⟨e,es',s1,s2,n,K2,k1,k2,rfl,rfl,rfl,_,h1,h2⟩:=tg_uncons h
    cases m with
    | zero=>exact ⟨s1,n,h1⟩
    | succ m=>rw [stA_cons];exact tg_at h2 m (by simpa using hm)
theorem Gr.split {g:Grammar}:∀ {s1 s2 st w r:List Int} {ks:List (List D)},Gr g (s1++s2) st ks w r → ∃ k1 w1 m k2 w2,Gr g s1 st k1 w1 m∧Gr g s2 m k2 w2 r
  | [],s2,st,w,r,ks,h=>⟨[],[],st,ks,w,.nil,h⟩
  | x::s1,s2,st,w,r,ks,h=>by
    cases h with
    | sym hx h=>obtain ⟨k1,w1,m,k2,w2,h1,h2⟩:=Gr.split h;exact ⟨_,_,m,k2,w2,.sym hx h1,h2⟩
    | name hx hq h0 h=>obtain ⟨k1,w1,m,k2,w2,h1,h2⟩:=Gr.split h;exact ⟨_,_,m,k2,w2,.name hx hq h0 h1,h2⟩
theorem gr_sub {g:Grammar} {c:List Int} {i:Nat} {st w r w1 m:List Int} {k1 ks:List (List D)} (hi:i<c.length) (h1:Gr g (c.take i) st k1 w1 m) (h:Gr g c st ks w r) : ∃ k2 w2 r2,Gr g [c.getD i 0] m k2 w2 r2:=by
  rw [← List.take_append_drop i c] at h
  obtain ⟨_,_,_,_,_,a1,a2⟩:=h.split
  obtain ⟨_,_,rfl⟩:=h1.det a1
  rw [dropC (d:=0) hi] at a2
  obtain ⟨k,w',r',_,_,b1,_⟩:=Gr.split (s1:=[c.getD i 0]) a2
  exact ⟨k,w',r',b1⟩
abbrev trZ:List D:=[iv .i64 0,.nl,.nl]
def gwO (g:Grammar) (q:Int) (ks:List (List D)) (w:List Int):List (Nat × Ob):=[(0,⟨4,[graD g],true,false,.fix⟩),(1,⟨3,[trZ],true,false,.fix⟩),(3,⟨3,[[iv .i64 q,.own false 3 ks,.own false 1 (i64s w)]],true,true,.fix⟩)]
set_option maxRecDepth 10000 in
set_option maxHeartbeats 4000000 in
theorem grow_spec (g : Grammar) (hg : Valid g) (x : Int) (hx : 0 ≤ x ∧ x < g.k + g.n) (st : List Int) (hs : st.length ≤ 60) : Dm.Spec Try.prog 30 [.ag (graD g), iv .i64 x, .sl 1 (i64s st)] (fun d => (∃ q K w r, d = .tu [.ag [iv .i64 q, K, .sl 1 (i64s w)], .sl 1 (i64s r), .v (.bool true)] ∧ (K = .nl ∨ ∃ es, K = .sl 3 es) ∧ Gr g [x] st [[iv .i64 q, K, .sl 1 (i64s w)]] w r) ∨ (d = .tu [.ag trZ, .sl 1 [], .v (.bool false)] ∧ ∀ ks w r, ¬ Gr g [x] st ks w r)) := by
  refine spec_of_vc mixed Try.func30 c30 (by rw [show Try.f30.ntmps=_ from Try.ntmps30];simp) ?_
  unfold m30 r30
  have hk:=hg.k
  have hn:=hg.n
  have hlen:=hg.len
  by_cases hxk:x<g.k
  · repeat' first|((first|refine Br.dec ?_ ?_|refine Br.eqi ?_ ?_)<;>intro h<;>try (exfalso;omega))|refine Z1 ?_|with_reducible exact trivial|(refine Br.mk ?_ ?_<;>intro h)|(refine BrN.mk (fun h => ?_) ?_)|(refine AltVC.mk ?_ ?_)
    exact fin_mk (.inl ⟨-1,.nl,[x],st,rfl,.inl rfl,.sym hxk .nil⟩)
  · cases hst : st with
    | nil =>
      repeat' first|((first|refine Br.dec ?_ ?_|refine Br.eqi ?_ ?_)<;>intro h<;>try (exfalso;omega))|refine Z1 ?_|with_reducible exact trivial|(refine Br.mk ?_ ?_<;>intro h)|(refine BrN.mk (fun h => ?_) ?_)|(refine AltVC.mk ?_ ?_)
      exact fin_mk (.inr ⟨rfl,fun ks w r h=>by cases h with|sym h1 _=>exact hxk h1⟩)
    | cons q st' =>
      have hst2:st.length=st'.length+1:=by rw [hst];rfl
      rw [hst,List.length_cons] at hs
      have hq0:(i64s (q::st')).getD 0 []=[iv .i64 q]:=rfl
      have hno:¬ RuleAt g x q→∀ ks w r,¬ Gr g [x] (q::st') ks w r:=fun h ks w r hp=>by
        cases hp with
        | sym h1 _=>exact hxk h1
        | name _ h1 _=>exact h h1
      have hl:(q::st').length=st'.length+1:=rfl
      by_cases hq1:q<0
      · repeat' first|((first|refine Br.dec ?_ ?_|refine Br.eqi ?_ ?_)<;>intro h<;>try (exfalso;omega))|refine Z7 ?_|with_reducible exact trivial|(refine Br.mk ?_ ?_<;>intro h)|(refine BrN.mk (fun h => ?_) ?_)|(refine AltVC.mk ?_ ?_)
        exact fin_mk (.inr ⟨rfl,hno fun h=>by have:=h.1;omega⟩)
      · by_cases hq2:(g.rules.length:Int)≤q
        · repeat' first|((first|refine Br.dec ?_ ?_|refine Br.eqi ?_ ?_)<;>intro h<;>try (exfalso;omega))|refine Z7 ?_|with_reducible exact trivial|(refine Br.mk ?_ ?_<;>intro h)|(refine BrN.mk (fun h => ?_) ?_)|(refine AltVC.mk ?_ ?_)
          exact fin_mk (.inr ⟨rfl,hno fun h=>by have:=h.2.1;omega⟩)
        · obtain ⟨p, rfl⟩ : ∃ p : Nat, q = p := ⟨q.toNat, by omega⟩
          have hm:g.rules.getD p default ∈ g.rules:=getD_mem' (by omega)
          have hleft:=hg.left _ hm
          have hlong:=hg.long _ hm
          have hright:=hg.right _ hm
          by_cases hq3:(g.rules.getD p default).left=x - g.k
          · have hR : RuleAt g x p := ⟨by omega, by omega, by rw [Int.toNat_natCast]; exact hq3⟩
            have hlenw:=fun {s0 t0 w0 r0:List Int} {k0:List (List D)} (h:Gr g s0 t0 k0 w0 r0)=>And.intro (Gr.wlen (fun q hq=>hg.long _ (getD_mem' (l:=g.rules) (i:=q) hq)) h) h.short
            repeat' first|((first|refine Br.dec ?_ ?_|refine Br.eqi ?_ ?_)<;>intro h<;>try (exfalso;omega))|refine Z7 ?_|with_reducible exact trivial|(refine Br.mk ?_ ?_<;>intro h)|(refine BrN.mk (fun h => ?_) ?_)|(refine AltVC.mk ?_ ?_)
            refine LoopVC.nlo 3 0 1 3 ?_
            repeat' first|((first|refine Br.dec ?_ ?_|refine Br.eqi ?_ ?_)<;>intro h<;>try (exfalso;omega))|refine Z7 ?_|with_reducible exact trivial|(refine Br.mk ?_ ?_<;>intro h)|(refine BrN.mk (fun h => ?_) ?_)|(refine AltVC.mk ?_ ?_)
            refine LoopVC.nlo 3 0 2 1 ?_
            repeat' first|((first|refine Br.dec ?_ ?_|refine Br.eqi ?_ ?_)<;>intro h<;>try (exfalso;omega))|refine Z7 ?_|with_reducible exact trivial|(refine Br.mk ?_ ?_<;>intro h)|(refine BrN.mk (fun h => ?_) ?_)|(refine AltVC.mk ?_ ?_)
            refine LoopVC.mk (X:=Nat × List Int × List (List D) × List Int) (fun y=>[(2,.sl 1 (i64s y.2.1)),(71,iv .i64 y.1)]) (fun y=>gwO g p y.2.2.1 y.2.2.2) (fun y=>(g.rules.getD p default).right.length - y.1) (fun y=>y.1≤(g.rules.getD p default).right.length∧Gr g ((g.rules.getD p default).right.take y.1) st' y.2.2.1 y.2.2.2 y.2.1∧(y.2.2.1.all fun e=>e.all D.clo')=true∧y.2.2.1.length=y.1) (0,st',[],[]) ⟨Nat.zero_le _,.nil,rfl,rfl⟩ ?_ ?_
            · unfold gwO
              (simp (disch:=first|omega|(simp only [vlen];first|done|omega)) only [Fits_u,Fits_m,Fits_nil,List.length_append,↓vAq,vBq,↓reduceIte,Nat.reduceBEq,Nat.reduceEqDiff,Nat.reduceLT,Nat.reduceLeDiff,Nat.reduceAdd,Nat.reduceMul,Nat.reduceSub,reduceCtorEq,Int.reduceToNat]<;>(repeat' first|rfl|apply And.intro))
            · rintro ⟨i,rest,ks,w⟩ ⟨h1,h2,h3,h4⟩
              unfold gwO
              simp only at h1 h2 h3 h4 ⊢
              by_cases hi:i<(g.rules.getD p default).right.length
              · have hxi:=hright _ (getD_mem' (l:=(g.rules.getD p default).right) (i:=i) hi)
                have hl2:=hlenw h2
                rw [List.length_take] at hl2
                have hrec:=grow_spec g hg ((g.rules.getD p default).right.getD i default) hxi rest (by omega)
                repeat' first|((first|refine Br.dec ?_ ?_|refine Br.eqi ?_ ?_)<;>intro h<;>try (exfalso;omega))|refine Z7 ?_|with_reducible exact trivial|(refine Br.mk ?_ ?_<;>intro h)|(refine BrN.mk (fun h => ?_) ?_)|(refine AltVC.mk ?_ ?_)
                refine CallVC.mk hrec ?_
                rintro _ (⟨q',K,w',r',rfl,hK,hp⟩|⟨rfl,hn'⟩)
                · have hl3:=hlenw hp
                  rw [List.length_singleton] at hl3
                  have hnext:((ks++[[iv .i64 q',K,.sl 1 (i64s w')]]).all fun e=>e.all D.clo')=true→(ks++[[iv .i64 q',K,.sl 1 (i64s w')]]).length=i+1→i+1≤(g.rules.getD p default).right.length∧Gr g ((g.rules.getD p default).right.take (i+1)) st' (ks++[[iv .i64 q',K,.sl 1 (i64s w')]]) (w++w') r'∧((ks++[[iv .i64 q',K,.sl 1 (i64s w')]]).all fun e=>e.all D.clo')=true∧(ks++[[iv .i64 q',K,.sl 1 (i64s w')]]).length=i+1:=fun a1 a2=>⟨by omega,by rw [take_succ_getD hi default];exact h2.app hp,a1,a2⟩
                  rcases hK with rfl|⟨es,rfl⟩
                  · have hks:((ks++[[iv .i64 q',.nl,.sl 1 (i64s w')]]).all fun e=>e.all D.clo')=true:=by rw [List.all_append,h3];simp [clo'_v,clo'_nl,clo'_sl]
                    repeat' first|((first|refine Br.dec ?_ ?_|refine Br.eqi ?_ ?_)<;>intro h<;>try (exfalso;omega))|refine Z7 ?_|with_reducible exact trivial|(refine Br.mk ?_ ?_<;>intro h)|(refine BrN.mk (fun h => ?_) ?_)|(refine AltVC.mk ?_ ?_)
                    refine loopK.fold 5 3 0 1 false ?_
                    repeat' first|((first|refine Br.dec ?_ ?_|refine Br.eqi ?_ ?_)<;>intro h<;>try (exfalso;omega))|refine Z18 ?_|with_reducible exact trivial|(refine Br.mk ?_ ?_<;>intro h)|(refine BrN.mk (fun h => ?_) ?_)|(refine AltVC.mk ?_ ?_)
                    refine loopK.fold 7 3 0 2 true ?_
                    repeat' first|((first|refine Br.dec ?_ ?_|refine Br.eqi ?_ ?_)<;>intro h<;>try (exfalso;omega))|refine Z18 ?_|with_reducible exact trivial|(refine Br.mk ?_ ?_<;>intro h)|(refine BrN.mk (fun h => ?_) ?_)|(refine AltVC.mk ?_ ?_)
                    refine loopK.mk (i+1,r',ks++[[iv .i64 q',.nl,.sl 1 (i64s w')]],w++w') Y0 (hnext (by rw [List.all_append,h3];simp [clo'_v,clo'_nl,clo'_sl]) (by rw [List.length_append,h4];rfl)) (by show (g.rules.getD p default).right.length - (i+1)<(g.rules.getD p default).right.length - i;omega) ?_
                    (simp (disch:=first|omega|(simp only [vlen];first|done|omega)) only [Fits_u,Fits_m,Fits_nil,List.length_append,↓vAq,vBq,↓reduceIte,Nat.reduceBEq,Nat.reduceEqDiff,Nat.reduceLT,Nat.reduceLeDiff,Nat.reduceAdd,Nat.reduceMul,Nat.reduceSub,reduceCtorEq,Int.reduceToNat]<;>(repeat' first|rfl|apply And.intro))
                  · have hks:((ks++[[iv .i64 q',.sl 3 es,.sl 1 (i64s w')]]).all fun e=>e.all D.clo')=true:=by rw [List.all_append,h3];simp [clo'_v,clo'_nl,clo'_sl]
                    repeat' first|((first|refine Br.dec ?_ ?_|refine Br.eqi ?_ ?_)<;>intro h<;>try (exfalso;omega))|refine Z7 ?_|with_reducible exact trivial|(refine Br.mk ?_ ?_<;>intro h)|(refine BrN.mk (fun h => ?_) ?_)|(refine AltVC.mk ?_ ?_)
                    refine loopK.fold 5 3 0 1 false ?_
                    repeat' first|((first|refine Br.dec ?_ ?_|refine Br.eqi ?_ ?_)<;>intro h<;>try (exfalso;omega))|refine Z18 ?_|with_reducible exact trivial|(refine Br.mk ?_ ?_<;>intro h)|(refine BrN.mk (fun h => ?_) ?_)|(refine AltVC.mk ?_ ?_)
                    refine loopK.fold 7 3 0 2 true ?_
                    repeat' first|((first|refine Br.dec ?_ ?_|refine Br.eqi ?_ ?_)<;>intro h<;>try (exfalso;omega))|refine Z18 ?_|with_reducible exact trivial|(refine Br.mk ?_ ?_<;>intro h)|(refine BrN.mk (fun h => ?_) ?_)|(refine AltVC.mk ?_ ?_)
                    refine loopK.mk (i+1,r',ks++[[iv .i64 q',.sl 3 es,.sl 1 (i64s w')]],w++w') Y0 (hnext (by rw [List.all_append,h3];simp [clo'_v,clo'_nl,clo'_sl]) (by rw [List.length_append,h4];rfl)) (by show (g.rules.getD p default).right.length - (i+1)<(g.rules.getD p default).right.length - i;omega) ?_
                    (simp (disch:=first|omega|(simp only [vlen];first|done|omega)) only [Fits_u,Fits_m,Fits_nil,List.length_append,↓vAq,vBq,↓reduceIte,Nat.reduceBEq,Nat.reduceEqDiff,Nat.reduceLT,Nat.reduceLeDiff,Nat.reduceAdd,Nat.reduceMul,Nat.reduceSub,reduceCtorEq,Int.reduceToNat]<;>(repeat' first|rfl|apply And.intro))
                · repeat' first|((first|refine Br.dec ?_ ?_|refine Br.eqi ?_ ?_)<;>intro h<;>try (exfalso;omega))|refine Z7 ?_|with_reducible exact trivial|(refine Br.mk ?_ ?_<;>intro h)|(refine BrN.mk (fun h => ?_) ?_)|(refine AltVC.mk ?_ ?_)
                  refine fin_mk (.inr ⟨rfl,fun ks1 w1 r1 hp => ?_⟩)
                  cases hp with
                  | sym h5 _=>exact hxk h5
                  | name _ _ h5 =>
                    obtain ⟨k2,w2,r2,h6⟩:=gr_sub hi h2 h5
                    exact hn' _ _ _ h6
              · repeat' first|((first|refine Br.dec ?_ ?_|refine Br.eqi ?_ ?_)<;>intro h<;>try (exfalso;omega))|refine Z7 ?_|with_reducible exact trivial|(refine Br.mk ?_ ?_<;>intro h)|(refine BrN.mk (fun h => ?_) ?_)|(refine AltVC.mk ?_ ?_)
                refine GhoV.frz 3 ?_
                repeat' first|((first|refine Br.dec ?_ ?_|refine Br.eqi ?_ ?_)<;>intro h<;>try (exfalso;omega))|refine Z7 ?_|with_reducible exact trivial|(refine Br.mk ?_ ?_<;>intro h)|(refine BrN.mk (fun h => ?_) ?_)|(refine AltVC.mk ?_ ?_)
                refine GhoV.go ?_
                repeat' first|((first|refine Br.dec ?_ ?_|refine Br.eqi ?_ ?_)<;>intro h<;>try (exfalso;omega))|refine Z7 ?_|with_reducible exact trivial|(refine Br.mk ?_ ?_<;>intro h)|(refine BrN.mk (fun h => ?_) ?_)|(refine AltVC.mk ?_ ?_)
                have e:i=(g.rules.getD p default).right.length:=by omega
                rw [e,List.take_length] at h2
                refine fin_mk (.inl ⟨p,.sl 3 ks,w,rest,rfl,.inr ⟨ks,rfl⟩,?_⟩)
                have:=Gr.name (s:=[]) hxk hR h2 .nil
                rwa [List.append_nil] at this
          · repeat' first|((first|refine Br.dec ?_ ?_|refine Br.eqi ?_ ?_)<;>intro h<;>try (exfalso;omega))|refine Z7 ?_|with_reducible exact trivial|(refine Br.mk ?_ ?_<;>intro h)|(refine BrN.mk (fun h => ?_) ?_)|(refine AltVC.mk ?_ ?_)
            exact fin_mk (.inr ⟨rfl,hno fun h=>hq3 (by have:=h.2.2;rwa [Int.toNat_natCast] at this)⟩)
termination_by st.length
decreasing_by all_goals first|omega|(simp only [List.length_cons];omega)|(simp_wf;omega)
set_option maxRecDepth 10000 in
set_option maxHeartbeats 4000000 in
theorem equalI_spec (a b : List Int) (ha : a.length ≤ 1000000) (hb : b.length ≤ 1000000) : Dm.Spec Try.prog 31 [.sl 1 (i64s a), .sl 1 (i64s b)] (· = .v (.bool (decide (a = b)))) := by
  refine spec_of_vc mixed Try.func31 c31 (by rw [show Try.f31.ntmps=_ from Try.ntmps31];simp) ?_
  unfold m31 r31
  repeat' first|((first|refine Br.dec ?_ ?_|refine Br.eqi ?_ ?_)<;>intro h<;>try (exfalso;omega))|refine Z0 ?_|with_reducible exact trivial|(refine Br.mk ?_ ?_<;>intro h)|(refine BrN.mk (fun h => ?_) ?_)|(refine AltVC.mk ?_ ?_)
  · refine LoopVC.mk (X:=Nat) (fun i=>[(13,iv .i64 i)]) (fun _=>[]) (fun i=>a.length - i) (fun i=>i≤a.length∧∀ j,j<i→a.getD j 0=b.getD j 0) 0 ⟨by omega,by omega⟩ ?_ ?_
    · (simp (disch:=first|omega|(simp only [vlen];first|done|omega)) only [Fits_u,Fits_m,Fits_nil,List.length_append,vmy,↓vAq,vBq,↓reduceIte,Nat.reduceBEq,Nat.reduceEqDiff,Nat.reduceLT,Nat.reduceLeDiff,Nat.reduceAdd,Nat.reduceMul,Nat.reduceSub,reduceCtorEq,Int.reduceToNat]<;>(repeat' first|rfl|apply And.intro))
    · rintro i ⟨h1,h2⟩
      repeat' first|((first|refine Br.dec ?_ ?_|refine Br.eqi ?_ ?_)<;>intro h<;>try (exfalso;omega))|refine Z0 ?_|with_reducible exact trivial|(refine Br.mk ?_ ?_<;>intro h)|(refine BrN.mk (fun h => ?_) ?_)|(refine AltVC.mk ?_ ?_)
      · have e:a.getD i 0=b.getD i 0:=by omega
        refine loopK.mk (i+1) Y0 ⟨by omega,fun j hj => ?_⟩ (by omega) (by (simp (disch:=first|omega|(simp only [vlen];first|done|omega)) only [Fits_u,Fits_m,Fits_nil,List.length_append,vmy,↓vAq,vBq,↓reduceIte,Nat.reduceBEq,Nat.reduceEqDiff,Nat.reduceLT,Nat.reduceLeDiff,Nat.reduceAdd,Nat.reduceMul,Nat.reduceSub,reduceCtorEq,Int.reduceToNat]<;>(repeat' first|rfl|apply And.intro)))
        by_cases e2:j=i
        · subst e2;exact e
        · exact h2 j (by omega)
      · exact fin_mk (vbEq (decide_eq_false (fun e=>by subst e;omega)).symm)
      · refine fin_mk (vbEq (decide_eq_true ?_).symm)
        apply List.ext_getElem (by omega)
        intro j h3 h4
        have:=h2 j (by omega)
        simpa [List.getD,h3,h4] using this
  · exact fin_mk (vbEq (by rw [decide_eq_false (fun e=>by subst e;omega)]))
end Go.Proofs.Ytjekkbpdgnohcaa

namespace Go.Proofs.Ytjekkbpdgnohcaa
open Go.Dm
def pcR (g:Grammar) (w:List Int) (K:Nat) (d:D) (o:List (Option Ob)):Prop := ∃ L,d=iv .i64 K∧o=(coO g w L).map some∧MI g w L
def pcP (g:Grammar) (w:List Int) (x:Int) (i j:Nat):Prop:=∀ st K row,Tg g w [x] i [j] st K [row]→∀ L,MI g w L→Dm.SpecH Try.prog 32 [.ptr 0 6 0 0,.ag row,.ag [iv .i64 i,iv .i64 j]] (coO g w L) (pcR g w K)
theorem pc_fin {g:Grammar} {w:List Int} {s:S} {n:Nat} {L:List KE} {d:D} (h1:2≤s.N) (h2:fitL s 2 0 ((coO g w L).map some)) (hv:d.trim 2=iv .i64 n) (hL:MI g w L):FinH 2 (pcR g w n) s d :=
  finH_mk ((coO g w L).map some) (by simp [coO]) (by simpa [coO] using h1) (by simpa [coO] using h2) ⟨L,hv,rfl,hL⟩
set_option maxRecDepth 10000 in
set_option maxHeartbeats 4000000 in
theorem placeS_spec (g:Grammar) (w:List Int) (hc:CC g w) (x:Int) (i j:Nat) (l:List Int) (L:List KE) (hL:MI g w L):Dm.SpecH Try.prog 32 [.ptr 0 6 0 0,.ag [iv .i64 (-1),.nl,.sl 1 (i64s l)],.ag [iv .i64 i,iv .i64 j]] (coO g w L) (pcR g w 0):=by
  refine specH_of_vc mixed Try.func32 c32 (by rw [show Try.f32.ntmps=_ from Try.ntmps32];simp) ?_
  unfold m32 r32
  unfold coO
  repeat' first|((first|refine Br.dec ?_ ?_|refine Br.eqi ?_ ?_)<;>intro h<;>try (exfalso;omega))|refine Z0 ?_|with_reducible exact trivial|(refine Br.mk ?_ ?_<;>intro h)|(refine BrN.mk (fun h => ?_) ?_)|(refine AltVC.mk ?_ ?_)
  exact pc_fin (L:=L) Y12 Y16 Y12 hL
theorem nI_inj:∀ {a b:List Nat},nI a=nI b→a=b
  | [],[],_=>rfl
  | [],_::_,h=>by simp [nI] at h
  | _::_,[],h=>by simp [nI] at h
  | x::a,y::b,h=>by
    simp only [nI,List.map_cons,List.cons.injEq] at h
    rw [show x=y by omega,nI_inj h.2]
def pwL (g:Grammar) (w:List Int) (L:List KE) (i j q:Nat) (s1:List Int) (k1:List (List D)) (w1:List Int) (own:List Nat):List (Nat × Ob):=[(0,⟨6,[[iv .i64 g.k,iv .i64 g.n,iv .i64 g.start,.sl 2 (tbl rulD g.rules),.sl 1 (i64s w),.mp 1]],false,false,.fix⟩),(1,⟨5,tbl keD L,true,false,.map [.i64,.i64,.i64,.i64] true false⟩),
  (2,⟨1,[[.ptr 0 6 0 0]],false,false,.fix⟩),(3,⟨3,[[iv .i64 q,.sl 3 k1,.sl 1 (i64s w1)]],true,false,.fix⟩),(4,⟨2,[[iv .i64 i,iv .i64 j]],true,false,.fix⟩),(5,⟨2,[[iv .i64 (g.rules.getD q default).left,.sl 1 (i64s (g.rules.getD q default).right)]],true,false,.fix⟩),(6,⟨1,[[.own false 1 (i64s (nI own))]],true,true,.fix⟩)]
def pvL (g:Grammar) (w:List Int) (L:List KE) (i j q:Nat) (k1:List (List D)) (w1:List Int) (n:Nat):List (Nat × Ob):=[(0,⟨6,[[iv .i64 g.k,iv .i64 g.n,iv .i64 g.start,.sl 2 (tbl rulD g.rules),.sl 1 (i64s w),.mp 1]],false,false,.fix⟩),(1,⟨5,tbl keD L,true,false,.map [.i64,.i64,.i64,.i64] true false⟩),
  (2,⟨1,[[.ptr 0 6 0 0]],false,false,.fix⟩),(3,⟨3,[[iv .i64 q,.sl 3 k1,.sl 1 (i64s w1)]],true,false,.fix⟩),(4,⟨2,[[iv .i64 i,iv .i64 j]],true,false,.fix⟩),(5,⟨2,[[iv .i64 (g.rules.getD q default).left,.sl 1 (i64s (g.rules.getD q default).right)]],true,false,.fix⟩),(7,⟨1,[[iv .i64 n]],true,false,.fix⟩)]
set_option maxRecDepth 10000 in
set_option maxHeartbeats 4000000 in
theorem placeN_spec (g : Grammar) (w : List Int) (hc : CC g w) (x : Int) (hx : ¬ x < g.k) (hx2 : x < g.k + g.n) (i j : Nat) (hij : i ≤ j) (hj : j ≤ w.length) (hT : trees g w x i j ≤ 1099511627776) (ih : ∀ x' i' j', 0 ≤ x' → x' < g.k + g.n → i' ≤ j' → j' ≤ w.length → (x' < g.k ∨ j' - i' < j - i) → trees g w x' i' j' ≤ 1099511627776 → pcP g w x' i' j')
    (q c:Nat) (s1 w1:List Int) (K1:Nat) (k1:List (List D)) (hRA:RuleAt g x q) (hcl:c<(cutN ((g.rules.getD q default).right.length - 1) i j).length) (h1:Tg g w (g.rules.getD q default).right i ((cutN ((g.rules.getD q default).right.length - 1) i j).getD c []) s1 K1 k1) (L:List KE) (hL:MI g w L):Dm.SpecH Try.prog 32 [.ptr 0 6 0 0,.ag [iv .i64 q,.sl 3 k1,.sl 1 (i64s w1)],.ag [iv .i64 i,iv .i64 j]] (coO g w L) (pcR g w (rlB g w x i j q+sumL (prT g w (g.rules.getD q default).right i) ((cutN ((g.rules.getD q default).right.length - 1) i j).take c)+K1)):=by
  refine specH_of_vc mixed Try.func32 c32 (by rw [show Try.f32.ntmps=_ from Try.ntmps32];simp) ?_
  unfold m32 r32
  have hk:=hc.v.k
  have hn:=hc.v.n
  have hw:=hc.w
  have hlen:=hc.v.len
  have hql:=rule_lt hRA
  have hm:g.rules.getD q default ∈ g.rules:=getD_mem' hql
  have hlong:=hc.v.long _ hm
  have hright:=hc.v.right _ hm
  have hleft:=hc.v.left _ hm
  have hlx:(g.rules.getD q default).left=x - g.k:=by have:=hRA.2.2;rwa [Int.toNat_natCast] at this
  have hne:=right_ne hc.p hql
  have hrl:0<(g.rules.getD q default).right.length:=List.length_pos_iff.2 hne
  have hrow:=rlB_row hc.p (w:=w) (i:=i) (j:=j) hx hRA
  have hcs:=cut_sum (g:=g) (w:=w) _ i j hne
  have hmem:=getD_cut hcl
  have hmono:=cutN_mono hij hmem
  have hol:=cutN_len hmem
  have hshort:=cutN_short hmem
  have hkl:=h1.len
  have hat:=tg_at h1
  have hrow2:=sumL_take (f:=prT g w (g.rules.getD q default).right i) (d:=[]) hcl
  have hlt:=h1.tk.lt hc.p
  generalize hown:(cutN ((g.rules.getD q default).right.length - 1) i j).getD c []=own at *
  have hkw:∀ m,m<k1.length → ∃ q' kk wd,k1.getD m []=[iv .i64 q',kk,.sl 1 (i64s wd)]∧stA i own m+wd.length=own.getD m 0∧(kk=.nl ∨ ∃ es,kk=.sl 3 es):=fun m hm=>by
    obtain ⟨_,_,h⟩:=hat m (by omega)
    exact tg_row h
  unfold coO
  repeat' first|((first|refine Br.dec ?_ ?_|refine Br.eqi ?_ ?_)<;>intro h<;>try (exfalso;omega))|refine Z0 ?_|with_reducible exact trivial|(refine Br.mk ?_ ?_<;>intro h)|(refine BrN.mk (fun h => ?_) ?_)|(refine AltVC.mk ?_ ?_)
  refine LoopVC.nlo 6 0 0 1 ?_
  repeat' first|((first|refine Br.dec ?_ ?_|refine Br.eqi ?_ ?_)<;>intro h<;>try (exfalso;omega))|refine Z0 ?_|with_reducible exact trivial|(refine Br.mk ?_ ?_<;>intro h)|(refine BrN.mk (fun h => ?_) ?_)|(refine AltVC.mk ?_ ?_)
  refine LoopVC.mk (X:=Nat) (fun m=>[(9,iv .i64 (stA i own m)),(35,iv .i64 m)]) (fun m=>pwL g w L i j q s1 k1 w1 (own.take m)) (fun m=>k1.length - m) (fun m=>m≤k1.length) 0 (Nat.zero_le _) ?_ ?_
  · unfold pwL
    simp only [List.take_zero,show stA i own 0=i from rfl]
    (simp (disch:=first|omega|(simp only [vlen];first|done|omega)) only [Fits_u,Fits_m,Fits_nil,List.length_append,vmy,↓vAq,vBq,↓reduceIte,Nat.reduceBEq,Nat.reduceEqDiff,Nat.reduceLT,Nat.reduceLeDiff,Nat.reduceAdd,Nat.reduceMul,Nat.reduceSub,reduceCtorEq,Int.reduceToNat]<;>(repeat' first|rfl|apply And.intro))
    all_goals first|rfl|trace_state
  · intro m hmk
    unfold pwL
    have htl:(own.take m).length=m:=by rw [List.length_take];omega
    by_cases hml:m<k1.length
    · obtain ⟨q',kk,wd,hr,hwd,hkk⟩:=hkw m hml
      have hgm:=hmono.get (k:=m) (by omega)
      have hnx:List.take (List.take m own).length (nI (List.take m own))++[(stA i own m:Int)+wd.length]=nI (own.take (m+1)):=by
        rw [List.take_of_length_le (by rw [nI_len];exact Nat.le_refl _),take_succ_getD (show m<own.length by omega) 0]
        simp only [nI,List.map_append,List.map_cons,List.map_nil]
        rw [show (stA i own m:Int)+wd.length=((own.getD m 0:Nat):Int) by omega]
      have hnl:(nI (own.take (m+1))).length=m+1:=by rw [nI_len,List.length_take];omega
      have hst:stA i own (m+1)=own.getD m 0:=stA_succ
      have hst2:(stA i own m:Int)+wd.length=((own.getD m 0:Nat):Int):=by omega
      rcases hkk with rfl|⟨es,rfl⟩
      · repeat' first|((first|refine Br.dec ?_ ?_|refine Br.eqi ?_ ?_)<;>intro h<;>try (exfalso;omega))|refine Z19 ?_|with_reducible exact trivial|(refine Br.mk ?_ ?_<;>intro h)|(refine BrN.mk (fun h => ?_) ?_)|(refine AltVC.mk ?_ ?_)
        refine loopK.fold 8 6 0 0 true ?_
        repeat' first|((first|refine Br.dec ?_ ?_|refine Br.eqi ?_ ?_)<;>intro h<;>try (exfalso;omega))|refine Z19 ?_|with_reducible exact trivial|(refine Br.mk ?_ ?_<;>intro h)|(refine BrN.mk (fun h => ?_) ?_)|(refine AltVC.mk ?_ ?_)
        refine loopK.mk (m+1) Y0 (by omega) (by omega) ?_
        simp only [hst]
        (simp (disch:=first|omega|(simp only [vlen];first|done|omega)) only [Fits_u,Fits_m,Fits_nil,List.length_append,vmy,hst2,↓vAq,vBq,↓reduceIte,Nat.reduceBEq,Nat.reduceEqDiff,Nat.reduceLT,Nat.reduceLeDiff,Nat.reduceAdd,Nat.reduceMul,Nat.reduceSub,reduceCtorEq,Int.reduceToNat]<;>(repeat' first|rfl|apply And.intro))
        all_goals first|rfl|trace_state
      · repeat' first|((first|refine Br.dec ?_ ?_|refine Br.eqi ?_ ?_)<;>intro h<;>try (exfalso;omega))|refine Z19 ?_|with_reducible exact trivial|(refine Br.mk ?_ ?_<;>intro h)|(refine BrN.mk (fun h => ?_) ?_)|(refine AltVC.mk ?_ ?_)
        refine loopK.fold 8 6 0 0 true ?_
        repeat' first|((first|refine Br.dec ?_ ?_|refine Br.eqi ?_ ?_)<;>intro h<;>try (exfalso;omega))|refine Z19 ?_|with_reducible exact trivial|(refine Br.mk ?_ ?_<;>intro h)|(refine BrN.mk (fun h => ?_) ?_)|(refine AltVC.mk ?_ ?_)
        refine loopK.mk (m+1) Y0 (by omega) (by omega) ?_
        simp only [hst]
        (simp (disch:=first|omega|(simp only [vlen];first|done|omega)) only [Fits_u,Fits_m,Fits_nil,List.length_append,vmy,hst2,↓vAq,vBq,↓reduceIte,Nat.reduceBEq,Nat.reduceEqDiff,Nat.reduceLT,Nat.reduceLeDiff,Nat.reduceAdd,Nat.reduceMul,Nat.reduceSub,reduceCtorEq,Int.reduceToNat]<;>(repeat' first|rfl|apply And.intro))
        all_goals first|rfl|trace_state
    · have hme:own.take m=own:=List.take_of_length_le (by omega)
      rw [hme]
      repeat' first|((first|refine Br.dec ?_ ?_|refine Br.eqi ?_ ?_)<;>intro h<;>try (exfalso;omega))|refine Z0 ?_|with_reducible exact trivial|(refine Br.mk ?_ ?_<;>intro h)|(refine BrN.mk (fun h => ?_) ?_)|(refine AltVC.mk ?_ ?_)
      refine LoopVC.mk (X:=Nat × List KE) (fun y=>[(51,iv .i64 y.1)]) (fun y=>pwL g w y.2 i j q s1 k1 w1 own++[(7,⟨1,[[iv .i64 (rlB g w x i j y.1)]],true,false,.fix⟩)]) (fun y=>q - y.1) (fun y=>y.1≤q∧MI g w y.2) (0,L) ⟨Nat.zero_le _,hL⟩ ?_ ?_
      · unfold pwL
        (simp (disch:=first|omega|(simp only [vlen];first|done|omega)) only [Fits_u,Fits_m,Fits_nil,List.length_append,vmy,↓vAq,vBq,↓reduceIte,Nat.reduceBEq,Nat.reduceEqDiff,Nat.reduceLT,Nat.reduceLeDiff,Nat.reduceAdd,Nat.reduceMul,Nat.reduceSub,reduceCtorEq,Int.reduceToNat]<;>(repeat' first|rfl|apply And.intro))
        all_goals first|rfl|trace_state
      · rintro ⟨k, Lx⟩ ⟨hkq, hLx⟩
        simp only at hkq hLx ⊢
        unfold pwL
        have hk1:=@rlB_succ g w x i j k
        have hk2:rlB g w x i j (k+1)≤trees g w x i j:=by rw [trees_name hc.p hx];exact nsum_mono (f:=ruleV g w x i j) (by omega)
        by_cases hkl2:k<q
        · have hkr2:=List.length_pos_iff.2 (right_ne hc.p (show k<g.rules.length by omega))
          by_cases hlk:(g.rules.getD k default).left=x - g.k
          · have hru:ruleV g w x i j k=rowN g w (g.rules.getD k default).right i j:=by unfold ruleV;rw [if_pos hlk]
            have hcp:cp (rowN g w (g.rules.getD k default).right i j)=rowN g w (g.rules.getD k default).right i j:=by unfold cp;omega
            have hrw:=rowC_spec g w hc k 0 i j (by omega) hkr2 hij hj Lx hLx
            rw [List.drop_zero] at hrw
            repeat' first|((first|refine Br.dec ?_ ?_|refine Br.eqi ?_ ?_)<;>intro h<;>try (exfalso;omega))|refine Z0 ?_|with_reducible exact trivial|(refine Br.mk ?_ ?_<;>intro h)|(refine BrN.mk (fun h => ?_) ?_)|(refine AltVC.mk ?_ ?_)
            refine DrawVC.t ?_
            repeat' first|((first|refine Br.dec ?_ ?_|refine Br.eqi ?_ ?_)<;>intro h<;>try (exfalso;omega))|refine Z0 ?_|with_reducible exact trivial|(refine Br.mk ?_ ?_<;>intro h)|(refine BrN.mk (fun h => ?_) ?_)|(refine AltVC.mk ?_ ?_)
            all_goals refine CallVC.lendE [0,1] [.ptr 0 6 0 0,iv .i64 k,iv .i64 (0:Nat),.ag [iv .i64 i,iv .i64 j]] (coO g w Lx) hrw (by simp) (by rfl) Y2 ?_
            all_goals rintro _ _ ⟨L2,rfl,rfl,hL2⟩
            all_goals unfold coO
            all_goals rw [hcp,← hru]
            all_goals (repeat' first|((first|refine Br.dec ?_ ?_|refine Br.eqi ?_ ?_)<;>intro h<;>try (exfalso;omega))|refine Z0 ?_|with_reducible exact trivial|(refine Br.mk ?_ ?_<;>intro h)|(refine BrN.mk (fun h => ?_) ?_)|(refine AltVC.mk ?_ ?_))
            all_goals refine loopK.mk (k+1,L2) Y0 ⟨by show k+1≤q;omega,hL2⟩ (by show q - (k+1)<q - k;omega) ?_
            all_goals rw [hk1]
            all_goals ((simp (disch:=first|omega|(simp only [vlen];first|done|omega)) only [Fits_u,Fits_m,Fits_nil,List.length_append,vmy,↓vAq,vBq,↓reduceIte,Nat.reduceBEq,Nat.reduceEqDiff,Nat.reduceLT,Nat.reduceLeDiff,Nat.reduceAdd,Nat.reduceMul,Nat.reduceSub,reduceCtorEq,Int.reduceToNat]<;>(repeat' first|rfl|apply And.intro)))
            all_goals first|rfl|trace_state
          · have hru:ruleV g w x i j k=0:=by unfold ruleV;rw [if_neg hlk]
            repeat' first|((first|refine Br.dec ?_ ?_|refine Br.eqi ?_ ?_)<;>intro h<;>try (exfalso;omega))|refine Z0 ?_|with_reducible exact trivial|(refine Br.mk ?_ ?_<;>intro h)|(refine BrN.mk (fun h => ?_) ?_)|(refine AltVC.mk ?_ ?_)
            refine loopK.mk (k+1,Lx) Y0 ⟨by show k+1≤q;omega,hLx⟩ (by show q - (k+1)<q - k;omega) ?_
            rw [hk1,hru,Nat.add_zero]
            (simp (disch:=first|omega|(simp only [vlen];first|done|omega)) only [Fits_u,Fits_m,Fits_nil,List.length_append,vmy,↓vAq,vBq,↓reduceIte,Nat.reduceBEq,Nat.reduceEqDiff,Nat.reduceLT,Nat.reduceLeDiff,Nat.reduceAdd,Nat.reduceMul,Nat.reduceSub,reduceCtorEq,Int.reduceToNat]<;>(repeat' first|rfl|apply And.intro))
            all_goals first|rfl|trace_state
        · have hkq2 : k = q := by omega
          subst hkq2
          repeat' first|((first|refine Br.dec ?_ ?_|refine Br.eqi ?_ ?_)<;>intro h<;>try (exfalso;omega))|refine Z0 ?_|with_reducible exact trivial|(refine Br.mk ?_ ?_<;>intro h)|(refine BrN.mk (fun h => ?_) ?_)|(refine AltVC.mk ?_ ?_)
          refine CallVC.frz 6 ?_
          repeat' first|((first|refine Br.dec ?_ ?_|refine Br.eqi ?_ ?_)<;>intro h<;>try (exfalso;omega))|refine Z0 ?_|with_reducible exact trivial|(refine Br.mk ?_ ?_<;>intro h)|(refine BrN.mk (fun h => ?_) ?_)|(refine AltVC.mk ?_ ?_)
          refine CallVC.eq (cutsC_spec _ i j) ?_
          repeat' first|((first|refine Br.dec ?_ ?_|refine Br.eqi ?_ ?_)<;>intro h<;>try (exfalso;omega))|refine Z0 ?_|with_reducible exact trivial|(refine Br.mk ?_ ?_<;>intro h)|(refine BrN.mk (fun h => ?_) ?_)|(refine AltVC.mk ?_ ?_)
          refine RfVC.mk (cutRows ((g.rules.getD k default).right.length - 1) i j) (fun _=>[]) (fun y:List KE × Nat=>pvL g w y.1 i j k k1 w1 y.2) (fun m y=>MI g w y.1∧m≤c∧y.2=rlB g w x i j k+sumL (prT g w (g.rules.getD k default).right i) ((cutN ((g.rules.getD k default).right.length - 1) i j).take m)) (Lx,rlB g w x i j k) ?_ ?_ ⟨hLx,Nat.zero_le _,by simp only [List.take_zero,sumL];omega⟩ ?_ (fun _=>rfl) ?_ ?_
          · repeat' first|((first|refine Br.dec ?_ ?_|refine Br.eqi ?_ ?_)<;>intro h<;>try (exfalso;omega))|refine Z0 ?_|with_reducible exact trivial|(refine Br.mk ?_ ?_<;>intro h)|(refine BrN.mk (fun h => ?_) ?_)|(refine AltVC.mk ?_ ?_)
            have:=cuts_it ((g.rules.getD k default).right.length - 1) i j (by omega) (by omega) (by omega)
            rw [show (g.rules.getD k default).right.length - 1+1=(g.rules.getD k default).right.length by omega] at this
            exact IterD.mk (by simp only [List.all_cons,List.all_nil,Bool.and_true];unfold D.cl;rw [alls_leaf rfl,alls_leaf rfl];rfl) this
          · intro row hrow'
            obtain ⟨c,_,rfl⟩:=List.mem_map.1 hrow'
            rfl
          · unfold pvL
            (simp (disch:=first|omega|(simp only [vlen];first|done|omega)) only [Fits_u,Fits_m,Fits_nil,List.length_append,vmy,↓vAq,vBq,↓reduceIte,Nat.reduceBEq,Nat.reduceEqDiff,Nat.reduceLT,Nat.reduceLeDiff,Nat.reduceAdd,Nat.reduceMul,Nat.reduceSub,reduceCtorEq,Int.reduceToNat]<;>(repeat' first|rfl|apply And.intro))
            all_goals first|rfl|trace_state
          · rintro m ⟨Ly, n'⟩ hml ⟨hLy, hmc, hn'⟩
            rw [cutRows_len] at hml
            simp only at hLy hmc hn' ⊢
            rw [cutRows_get hml]
            unfold pvL
            have hcm:=getD_cut hml
            have hcl2:=cutN_len hcm
            have heq:=equalI_spec (nI ((cutN ((g.rules.getD k default).right.length - 1) i j).getD m [])) (nI own) (by rw [nI_len];omega) (by rw [nI_len];omega)
            by_cases hme:m=c
            · subst hme
              rw [hown] at heq ⊢
              rw [decide_eq_true rfl] at heq
              repeat' first|((first|refine Br.dec ?_ ?_|refine Br.eqi ?_ ?_)<;>intro h<;>try (exfalso;omega))|refine Z0 ?_|with_reducible exact trivial|(refine Br.mk ?_ ?_<;>intro h)|(refine BrN.mk (fun h => ?_) ?_)|(refine AltVC.mk ?_ ?_)
              refine CallVC.eq heq ?_
              repeat' first|((first|refine Br.dec ?_ ?_|refine Br.eqi ?_ ?_)<;>intro h<;>try (exfalso;omega))|refine Z0 ?_|with_reducible exact trivial|(refine Br.mk ?_ ?_<;>intro h)|(refine BrN.mk (fun h => ?_) ?_)|(refine AltVC.mk ?_ ?_)
              have hown1:∀ e,e ∈ own→e≤1000:=fun e he=>by
                obtain ⟨k,hk,rfl⟩:=List.getElem_of_mem he
                have:=(hmono.get hk).2
                rw [List.getD_eq_getElem?_getD,List.getElem?_eq_getElem hk] at this
                exact Nat.le_trans this (by omega)
              refine CallVC.eq (ranges_spec i own (by omega) (by omega) hown1) ?_
              repeat' first|((first|refine Br.dec ?_ ?_|refine Br.eqi ?_ ?_)<;>intro h<;>try (exfalso;omega))|refine Z0 ?_|with_reducible exact trivial|(refine Br.mk ?_ ?_<;>intro h)|(refine BrN.mk (fun h => ?_) ?_)|(refine AltVC.mk ?_ ?_)
              refine LoopVC.mk (X:=Nat × Nat × List KE) (fun y=>[(99,iv .i64 y.1)]) (fun y=>pvL g w y.2.2 i j k k1 w1 y.2.1) (fun y=>k1.length - y.1) (fun y=>y.1≤k1.length∧MI g w y.2.2 ∧ ∃ st2 K2,Tg g w ((g.rules.getD k default).right.drop y.1) (stA i own y.1) (own.drop y.1) st2 K2 (k1.drop y.1)∧y.2.1+K2=n'+K1) (0,n',Ly) ⟨Nat.zero_le _,hLy,s1,K1,h1,rfl⟩ ?_ ?_
              · unfold pvL
                (simp (disch:=first|omega|(simp only [vlen];first|done|omega)) only [Fits_u,Fits_m,Fits_nil,List.length_append,vmy,↓vAq,vBq,↓reduceIte,Nat.reduceBEq,Nat.reduceEqDiff,Nat.reduceLT,Nat.reduceLeDiff,Nat.reduceAdd,Nat.reduceMul,Nat.reduceSub,reduceCtorEq,Int.reduceToNat]<;>(repeat' first|rfl|apply And.intro))
                all_goals first|rfl|trace_state
              · rintro ⟨u, n2, Lz⟩ ⟨huk, hLz, st2, K2, hTg, hn2⟩
                simp only at huk hLz hTg hn2 ⊢
                unfold pvL
                by_cases hul:u<k1.length
                · have hur : u < (g.rules.getD k default).right.length := by omega
                  have huo:u<own.length:=by omega
                  rw [dropC (d:=0) hur,dropC (d:=0) huo,dropC (d:=[]) hul] at hTg
                  obtain ⟨e,es',s1',s2',nn,K2',k1',k2',he,rfl,hkk,hK,hT1,hT2⟩:=tg_uncons hTg
                  simp only [List.cons.injEq] at he hkk
                  obtain ⟨rfl,rfl⟩:=he
                  obtain ⟨rfl,rfl⟩:=hkk
                  have hltn:=hT1.tk.lt hc.p
                  rw [prT_cons,prT_nil,Nat.mul_one] at hltn
                  have hlt2:=hTg.tk.lt hc.p
                  obtain ⟨q',kk,wd,hrr,hwd,hkd⟩:=tg_row hT1
                  have hsA:stA i own (u+1)=own.getD u 0:=stA_succ
                  have hgm:=hmono.get huo
                  have hmd:=hmono.drop (k:=u+1) (by omega)
                  have hxm:=hright _ (getD_mem (l:=(g.rules.getD k default).right) (i:=u) (d:=0) hur)
                  have htk:List.take own.length (rgs i own)=rgs i own:=List.take_of_length_le (by rw [rgs_len];exact Nat.le_refl _)
                  have hrd:=@rgs_drop own i (u+1) (by omega)
                  have hrg:=@rgs_get own i u huo
                  have hp0:prT g w (g.rules.getD k default).right i own ≠ 0:=by omega
                  obtain ⟨T,P,Q,eT,eP,eQ,eP2,eQ2,hT0,hTB,hP0,hPT,hPB,hQ0,hTQ,hQB⟩:=prT_fac (B:=1099511627776) (by omega) hur hp0 (by omega)
                  rw [← hsA] at hT2 hK
                  rw [eQ] at hK
                  rw [eT] at hltn
                  have hcQ:cp Q=Q:=by unfold cp;omega
                  have hmany:=fun L' hL'=>many_spec g w hc ((g.rules.getD k default).right.drop (u+1)) (stA i own (u+1)) j (own.drop (u+1)) (by rw [List.length_drop,List.length_drop];omega) (by rw [List.length_drop];omega) (fun y hy=>hright y (List.mem_of_mem_drop hy)) hmd hj L' hL'
                  rw [eQ] at hmany
                  have hsm:(g.rules.getD k default).right.getD u 0<g.k∨own.getD u 0 - stA i own u<j - i:=by
                    by_cases h1:(g.rules.getD k default).right.length=1
                    · left
                      have h2:=hc.p _ hm
                      refine h2.2 _ ?_
                      match hr:(g.rules.getD k default).right,h1 with
                      | [s],_ =>
                        rw [hr] at hur
                        have:u=0:=by simpa using hur
                        subst this;rfl
                    · right
                      exact hshort u huo (by omega)
                  have hpl:=ih _ (stA i own u) (own.getD u 0) hxm.1 hxm.2 hgm.1 (by omega) hsm (by rw [eT];exact hTB) _ _ _ hT1
                  have hnQ:(nn:Int) * (Q:Int)=((nn * Q:Nat):Int):=(Int.natCast_mul nn Q).symm
                  rw [hrr] at hpl
                  have hrl2:(rgs i own).length=own.length:=rgs_len
                  rcases hkd with rfl|⟨ess,rfl⟩
                  · repeat' first|((first|refine Br.dec ?_ ?_|refine Br.eqi ?_ ?_)<;>intro h<;>try (exfalso;omega))|refine Z20 ?_|with_reducible exact trivial|(refine Br.mk ?_ ?_<;>intro h)|(refine BrN.mk (fun h => ?_) ?_)|(refine AltVC.mk ?_ ?_)
                    refine DrawVC.ct (X:=List KE) (fun _=>[]) (fun L'=>pvL g w L' i j k k1 w1 (n2+nn * Q)) (fun L'=>MI g w L') 9 Y0 ?_ ?_
                    · repeat' first|((first|refine Br.dec ?_ ?_|refine Br.eqi ?_ ?_)<;>intro h<;>try (exfalso;omega))|refine Z20 ?_|with_reducible exact trivial|(refine Br.mk ?_ ?_<;>intro h)|(refine BrN.mk (fun h => ?_) ?_)|(refine AltVC.mk ?_ ?_)
                      all_goals first
                        | (refine CallVC.lendE [0, 1] [.ptr 0 6 0 0, .ag [iv .i64 q', .nl, .sl 1 (i64s wd)], .ag [iv .i64 (stA i own u), iv .i64 (own.getD u 0)]] (coO g w Lz) (hpl Lz hLz) (by simp) (by rfl) Y2 ?_
                           rintro _ _ ⟨L3,rfl,rfl,hL3⟩
                           unfold coO
                           (repeat' first|((first|refine Br.dec ?_ ?_|refine Br.eqi ?_ ?_)<;>intro h<;>try (exfalso;omega))|refine Z12 ?_|with_reducible exact trivial|(refine Br.mk ?_ ?_<;>intro h)|(refine BrN.mk (fun h => ?_) ?_)|(refine AltVC.mk ?_ ?_))
                           all_goals refine CallVC.lendE [0,1] [.ptr 0 6 0 0,.sl 1 (i64s ((g.rules.getD k default).right.drop (u+1))),.sl 2 (tbl rgD (rgs (stA i own (u+1)) (own.drop (u+1))))] (coO g w L3) (hmany L3 hL3) (by simp) (by rfl) Y2 ?_
                           all_goals rintro _ _ ⟨L4,rfl,rfl,hL4⟩
                           all_goals unfold coO
                           all_goals rw [hcQ]
                           all_goals (repeat' first|((first|refine Br.dec ?_ ?_|refine Br.eqi ?_ ?_)<;>intro h<;>try (exfalso;omega))|refine Z12 ?_|with_reducible exact trivial|(refine Br.mk ?_ ?_<;>intro h)|(refine BrN.mk (fun h => ?_) ?_)|(refine AltVC.mk ?_ ?_))
                           all_goals refine cutK.mk L4 Y0 hL4 ?_
                           all_goals unfold pvL
                           all_goals ((simp (disch:=first|omega|(simp only [vlen];first|done|omega)) only [Fits_u,Fits_m,Fits_nil,List.length_append,vmy,↓vAq,vBq,↓reduceIte,Nat.reduceBEq,Nat.reduceEqDiff,Nat.reduceLT,Nat.reduceLeDiff,Nat.reduceAdd,Nat.reduceMul,Nat.reduceSub,reduceCtorEq,Int.reduceToNat]<;>(repeat' first|rfl|apply And.intro)))
                           all_goals first|rfl|exact ivEq (by omega)
                           done)
                        | (refine CallVC.lendE [0, 1] [.ptr 0 6 0 0, .sl 1 (i64s ((g.rules.getD k default).right.drop (u + 1))), .sl 2 (tbl rgD (rgs (stA i own (u + 1)) (own.drop (u + 1))))] (coO g w Lz) (hmany Lz hLz) (by simp) (by rfl) Y2 ?_
                           rintro _ _ ⟨L3,rfl,rfl,hL3⟩
                           unfold coO
                           rw [hcQ]
                           (repeat' first|((first|refine Br.dec ?_ ?_|refine Br.eqi ?_ ?_)<;>intro h<;>try (exfalso;omega))|refine Z12 ?_|with_reducible exact trivial|(refine Br.mk ?_ ?_<;>intro h)|(refine BrN.mk (fun h => ?_) ?_)|(refine AltVC.mk ?_ ?_))
                           all_goals refine CallVC.lendE [0,1] [.ptr 0 6 0 0,.ag [iv .i64 q',.nl,.sl 1 (i64s wd)],.ag [iv .i64 (stA i own u),iv .i64 (own.getD u 0)]] (coO g w L3) (hpl L3 hL3) (by simp) (by rfl) Y2 ?_
                           all_goals rintro _ _ ⟨L4,rfl,rfl,hL4⟩
                           all_goals unfold coO
                           all_goals (repeat' first|((first|refine Br.dec ?_ ?_|refine Br.eqi ?_ ?_)<;>intro h<;>try (exfalso;omega))|refine Z12 ?_|with_reducible exact trivial|(refine Br.mk ?_ ?_<;>intro h)|(refine BrN.mk (fun h => ?_) ?_)|(refine AltVC.mk ?_ ?_))
                           all_goals refine cutK.mk L4 Y0 hL4 ?_
                           all_goals unfold pvL
                           all_goals ((simp (disch:=first|omega|(simp only [vlen];first|done|omega)) only [Fits_u,Fits_m,Fits_nil,List.length_append,vmy,↓vAq,vBq,↓reduceIte,Nat.reduceBEq,Nat.reduceEqDiff,Nat.reduceLT,Nat.reduceLeDiff,Nat.reduceAdd,Nat.reduceMul,Nat.reduceSub,reduceCtorEq,Int.reduceToNat]<;>(repeat' first|rfl|apply And.intro)))
                           all_goals first|rfl|exact ivEq (by omega)
                           done)
                        | trace_state
                    · intro L5 hL5
                      unfold pvL
                      repeat' first|((first|refine Br.dec ?_ ?_|refine Br.eqi ?_ ?_)<;>intro h<;>try (exfalso;omega))|refine Z0 ?_|with_reducible exact trivial|(refine Br.mk ?_ ?_<;>intro h)|(refine BrN.mk (fun h => ?_) ?_)|(refine AltVC.mk ?_ ?_)
                      refine loopK.mk (u+1,n2+nn * Q,L5) Y0 ⟨by show u+1≤k1.length;omega,hL5,s2',K2',hT2,by show n2+nn * Q+K2'=_;omega⟩ (by show k1.length - (u+1)<k1.length - u;omega) ?_
                      (simp (disch:=first|omega|(simp only [vlen];first|done|omega)) only [Fits_u,Fits_m,Fits_nil,List.length_append,vmy,↓vAq,vBq,↓reduceIte,Nat.reduceBEq,Nat.reduceEqDiff,Nat.reduceLT,Nat.reduceLeDiff,Nat.reduceAdd,Nat.reduceMul,Nat.reduceSub,reduceCtorEq,Int.reduceToNat]<;>(repeat' first|rfl|apply And.intro))
                      all_goals first|rfl|trace_state
                  · repeat' first|((first|refine Br.dec ?_ ?_|refine Br.eqi ?_ ?_)<;>intro h<;>try (exfalso;omega))|refine Z20 ?_|with_reducible exact trivial|(refine Br.mk ?_ ?_<;>intro h)|(refine BrN.mk (fun h => ?_) ?_)|(refine AltVC.mk ?_ ?_)
                    refine DrawVC.ct (X:=List KE) (fun _=>[]) (fun L'=>pvL g w L' i j k k1 w1 (n2+nn * Q)) (fun L'=>MI g w L') 9 Y0 ?_ ?_
                    · repeat' first|((first|refine Br.dec ?_ ?_|refine Br.eqi ?_ ?_)<;>intro h<;>try (exfalso;omega))|refine Z20 ?_|with_reducible exact trivial|(refine Br.mk ?_ ?_<;>intro h)|(refine BrN.mk (fun h => ?_) ?_)|(refine AltVC.mk ?_ ?_)
                      all_goals first
                        | (refine CallVC.lendE [0, 1] [.ptr 0 6 0 0, .ag [iv .i64 q', .sl 3 ess, .sl 1 (i64s wd)], .ag [iv .i64 (stA i own u), iv .i64 (own.getD u 0)]] (coO g w Lz) (hpl Lz hLz) (by simp) (by rfl) Y2 ?_
                           rintro _ _ ⟨L3,rfl,rfl,hL3⟩
                           unfold coO
                           (repeat' first|((first|refine Br.dec ?_ ?_|refine Br.eqi ?_ ?_)<;>intro h<;>try (exfalso;omega))|refine Z12 ?_|with_reducible exact trivial|(refine Br.mk ?_ ?_<;>intro h)|(refine BrN.mk (fun h => ?_) ?_)|(refine AltVC.mk ?_ ?_))
                           all_goals refine CallVC.lendE [0,1] [.ptr 0 6 0 0,.sl 1 (i64s ((g.rules.getD k default).right.drop (u+1))),.sl 2 (tbl rgD (rgs (stA i own (u+1)) (own.drop (u+1))))] (coO g w L3) (hmany L3 hL3) (by simp) (by rfl) Y2 ?_
                           all_goals rintro _ _ ⟨L4,rfl,rfl,hL4⟩
                           all_goals unfold coO
                           all_goals rw [hcQ]
                           all_goals (repeat' first|((first|refine Br.dec ?_ ?_|refine Br.eqi ?_ ?_)<;>intro h<;>try (exfalso;omega))|refine Z12 ?_|with_reducible exact trivial|(refine Br.mk ?_ ?_<;>intro h)|(refine BrN.mk (fun h => ?_) ?_)|(refine AltVC.mk ?_ ?_))
                           all_goals refine cutK.mk L4 Y0 hL4 ?_
                           all_goals unfold pvL
                           all_goals ((simp (disch:=first|omega|(simp only [vlen];first|done|omega)) only [Fits_u,Fits_m,Fits_nil,List.length_append,vmy,↓vAq,vBq,↓reduceIte,Nat.reduceBEq,Nat.reduceEqDiff,Nat.reduceLT,Nat.reduceLeDiff,Nat.reduceAdd,Nat.reduceMul,Nat.reduceSub,reduceCtorEq,Int.reduceToNat]<;>(repeat' first|rfl|apply And.intro)))
                           all_goals first|rfl|exact ivEq (by omega)
                           done)
                        | (refine CallVC.lendE [0, 1] [.ptr 0 6 0 0, .sl 1 (i64s ((g.rules.getD k default).right.drop (u + 1))), .sl 2 (tbl rgD (rgs (stA i own (u + 1)) (own.drop (u + 1))))] (coO g w Lz) (hmany Lz hLz) (by simp) (by rfl) Y2 ?_
                           rintro _ _ ⟨L3,rfl,rfl,hL3⟩
                           unfold coO
                           rw [hcQ]
                           (repeat' first|((first|refine Br.dec ?_ ?_|refine Br.eqi ?_ ?_)<;>intro h<;>try (exfalso;omega))|refine Z12 ?_|with_reducible exact trivial|(refine Br.mk ?_ ?_<;>intro h)|(refine BrN.mk (fun h => ?_) ?_)|(refine AltVC.mk ?_ ?_))
                           all_goals refine CallVC.lendE [0,1] [.ptr 0 6 0 0,.ag [iv .i64 q',.sl 3 ess,.sl 1 (i64s wd)],.ag [iv .i64 (stA i own u),iv .i64 (own.getD u 0)]] (coO g w L3) (hpl L3 hL3) (by simp) (by rfl) Y2 ?_
                           all_goals rintro _ _ ⟨L4,rfl,rfl,hL4⟩
                           all_goals unfold coO
                           all_goals (repeat' first|((first|refine Br.dec ?_ ?_|refine Br.eqi ?_ ?_)<;>intro h<;>try (exfalso;omega))|refine Z12 ?_|with_reducible exact trivial|(refine Br.mk ?_ ?_<;>intro h)|(refine BrN.mk (fun h => ?_) ?_)|(refine AltVC.mk ?_ ?_))
                           all_goals refine cutK.mk L4 Y0 hL4 ?_
                           all_goals unfold pvL
                           all_goals ((simp (disch:=first|omega|(simp only [vlen];first|done|omega)) only [Fits_u,Fits_m,Fits_nil,List.length_append,vmy,↓vAq,vBq,↓reduceIte,Nat.reduceBEq,Nat.reduceEqDiff,Nat.reduceLT,Nat.reduceLeDiff,Nat.reduceAdd,Nat.reduceMul,Nat.reduceSub,reduceCtorEq,Int.reduceToNat]<;>(repeat' first|rfl|apply And.intro)))
                           all_goals first|rfl|exact ivEq (by omega)
                           done)
                        | trace_state
                    · intro L5 hL5
                      unfold pvL
                      repeat' first|((first|refine Br.dec ?_ ?_|refine Br.eqi ?_ ?_)<;>intro h<;>try (exfalso;omega))|refine Z0 ?_|with_reducible exact trivial|(refine Br.mk ?_ ?_<;>intro h)|(refine BrN.mk (fun h => ?_) ?_)|(refine AltVC.mk ?_ ?_)
                      refine loopK.mk (u+1,n2+nn * Q,L5) Y0 ⟨by show u+1≤k1.length;omega,hL5,s2',K2',hT2,by show n2+nn * Q+K2'=_;omega⟩ (by show k1.length - (u+1)<k1.length - u;omega) ?_
                      (simp (disch:=first|omega|(simp only [vlen];first|done|omega)) only [Fits_u,Fits_m,Fits_nil,List.length_append,vmy,↓vAq,vBq,↓reduceIte,Nat.reduceBEq,Nat.reduceEqDiff,Nat.reduceLT,Nat.reduceLeDiff,Nat.reduceAdd,Nat.reduceMul,Nat.reduceSub,reduceCtorEq,Int.reduceToNat]<;>(repeat' first|rfl|apply And.intro))
                      all_goals first|rfl|trace_state
                · have hue:u=k1.length:=by omega
                  rw [List.drop_of_length_le (by omega),List.drop_of_length_le (by omega),List.drop_of_length_le (by omega)] at hTg
                  cases hTg
                  repeat' first|((first|refine Br.dec ?_ ?_|refine Br.eqi ?_ ?_)<;>intro h<;>try (exfalso;omega))|refine Z0 ?_|with_reducible exact trivial|(refine Br.mk ?_ ?_<;>intro h)|(refine BrN.mk (fun h => ?_) ?_)|(refine AltVC.mk ?_ ?_)
                  exact pc_fin (L:=Lz) Y12 Y16 (by (simp (disch:=first|omega|(simp only [vlen];first|done|omega)) only [vmy,↓vAq,vBq,↓reduceIte,Nat.reduceBEq,Nat.reduceEqDiff,Nat.reduceLT,Nat.reduceLeDiff,Nat.reduceAdd,Nat.reduceMul,Nat.reduceSub,reduceCtorEq,Int.reduceToNat]);exact ivEq (by omega)) hLz
            · have hmc2:m<c:=by omega
              have hps:=sumL_take_succ (f:=prT g w (g.rules.getD k default).right i) (d:=[]) hml
              have hpl:=sumL_take (f:=prT g w (g.rules.getD k default).right i) (d:=[]) hml
              have hmono2:=cutN_mono hij hcm
              rw [decide_eq_false (fun e=>hme (cutN_inj hml hcl (by rw [hown];exact nI_inj e)))] at heq
              generalize hcu:(cutN ((g.rules.getD k default).right.length - 1) i j).getD m []=cu at *
              have hcp:cp (prT g w (g.rules.getD k default).right i cu)=prT g w (g.rules.getD k default).right i cu:=by unfold cp;omega
              have hcu1:∀ e,e ∈ cu→e≤1000:=fun e he=>by
                obtain ⟨k,hk,rfl⟩:=List.getElem_of_mem he
                have:=(hmono2.get hk).2
                rw [List.getD_eq_getElem?_getD,List.getElem?_eq_getElem hk] at this
                exact Nat.le_trans this (by omega)
              repeat' first|((first|refine Br.dec ?_ ?_|refine Br.eqi ?_ ?_)<;>intro h<;>try (exfalso;omega))|refine Z0 ?_|with_reducible exact trivial|(refine Br.mk ?_ ?_<;>intro h)|(refine BrN.mk (fun h => ?_) ?_)|(refine AltVC.mk ?_ ?_)
              refine CallVC.eq heq ?_
              repeat' first|((first|refine Br.dec ?_ ?_|refine Br.eqi ?_ ?_)<;>intro h<;>try (exfalso;omega))|refine Z0 ?_|with_reducible exact trivial|(refine Br.mk ?_ ?_<;>intro h)|(refine BrN.mk (fun h => ?_) ?_)|(refine AltVC.mk ?_ ?_)
              refine DrawVC.t ?_
              repeat' first|((first|refine Br.dec ?_ ?_|refine Br.eqi ?_ ?_)<;>intro h<;>try (exfalso;omega))|refine Z0 ?_|with_reducible exact trivial|(refine Br.mk ?_ ?_<;>intro h)|(refine BrN.mk (fun h => ?_) ?_)|(refine AltVC.mk ?_ ?_)
              all_goals refine CallP.eq (ranges_spec i cu (by omega) (by omega) hcu1) (fun h=>by cases h) ?_
              all_goals (repeat' first|((first|refine Br.dec ?_ ?_|refine Br.eqi ?_ ?_)<;>intro h<;>try (exfalso;omega))|refine Z0 ?_|with_reducible exact trivial|(refine Br.mk ?_ ?_<;>intro h)|(refine BrN.mk (fun h => ?_) ?_)|(refine AltVC.mk ?_ ?_))
              all_goals refine CallVC.lendE [0,1] [.ptr 0 6 0 0,.sl 1 (i64s (g.rules.getD k default).right),.sl 2 (tbl rgD (rgs i cu))] (coO g w Ly) (many_spec g w hc _ i j cu (by omega) (by omega) hright hmono2 hj Ly hLy) (by simp) (by rfl) Y2 ?_
              all_goals rintro _ _ ⟨L2,rfl,rfl,hL2⟩
              all_goals unfold coO
              all_goals rw [hcp]
              all_goals (repeat' first|((first|refine Br.dec ?_ ?_|refine Br.eqi ?_ ?_)<;>intro h<;>try (exfalso;omega))|refine Z0 ?_|with_reducible exact trivial|(refine Br.mk ?_ ?_<;>intro h)|(refine BrN.mk (fun h => ?_) ?_)|(refine AltVC.mk ?_ ?_))
              all_goals refine rfK.mk (L2,n'+prT g w (g.rules.getD k default).right i cu) Y0 ⟨hL2,hmc2,by show n'+_=_;rw [hps];omega⟩ ?_
              all_goals ((simp (disch:=first|omega|(simp only [vlen];first|done|omega)) only [Fits_u,Fits_m,Fits_nil,List.length_append,vmy,↓vAq,vBq,↓reduceIte,Nat.reduceBEq,Nat.reduceEqDiff,Nat.reduceLT,Nat.reduceLeDiff,Nat.reduceAdd,Nat.reduceMul,Nat.reduceSub,reduceCtorEq,Int.reduceToNat]<;>(repeat' first|rfl|apply And.intro)))
              all_goals first|rfl|trace_state
          · rintro ⟨Ly,n'⟩ ⟨hLy,hmc,hn'⟩
            rw [cutRows_len] at hmc
            omega
theorem place_all (g:Grammar) (w:List Int) (hc:CC g w):∀ n x i j,0≤x→x<g.k+g.n→i≤j→j≤w.length→(x<g.k∨j - i<n)→trees g w x i j≤1099511627776→pcP g w x i j:=by
  intro n
  induction n with
  | zero =>
    intro x i j h0 h1 hij hj h2 hT st K row h L hL
    have hx:=h2.resolve_right (Nat.not_lt_zero _)
    cases h with
    | sym _ _ h =>
      cases h
      exact placeS_spec g w hc x i _ [x] L hL
    | name hn=>exact absurd hx hn
  | succ n ih =>
    intro x i j h0 h1 hij hj h2 hT st K row h L hL
    cases h with
    | sym _ _ h =>
      cases h
      exact placeS_spec g w hc x i _ [x] L hL
    | @name _ _ _ _ _ q c s1 s2 w1 K1 K2 k1 k2 hx hq hcl hw h1' h2' =>
      cases h2'
      rw [prT_nil,Nat.mul_one,Nat.add_zero]
      have h3:=h2.resolve_left hx
      exact placeN_spec g w hc x hx h1 i j hij hj hT (fun x' i' j' a b c d e f=>ih x' i' j' a b c d (e.imp (fun h=>h) fun h=>by omega) f) q c s1 w1 K1 k1 hq hcl h1' L hL
theorem place_spec (g:Grammar) (w:List Int) (hc:CC g w) (x:Int) (i j:Nat) (h0:0≤x) (h1:x<g.k+g.n) (hij:i≤j) (hj:j≤w.length) (hT:trees g w x i j≤1099511627776):pcP g w x i j:=place_all g w hc (j - i+1) x i j h0 h1 hij hj (.inr (Nat.lt_succ_self _)) hT
def pkP (g:Grammar) (w:List Int) (stp:List Int) (d:D):Prop :=
  (trC g w ≠ 0∧d=.tu [iv .i64 0,iv .i64 (trC g w)])∨(trC g w=0∧60<stp.length∧d=.tu [iv .i64 0,iv .i64 1]) ∨
  (trC g w=0∧stp.length≤60∧(∀ K,¬ Tk g w [g.k+g.start] 0 [w.length] stp K)∧d=.tu [iv .i64 0,iv .i64 5]) ∨
  (trC g w=0∧stp.length≤60 ∧ ∃ K:Nat,Tk g w [g.k+g.start] 0 [w.length] stp K∧d=.tu [iv .i64 K,iv .i64 0])
set_option maxRecDepth 10000 in
set_option maxHeartbeats 4000000 in
theorem place2_spec (g : Grammar) (hg : g.ok) (w : List Int) (hw : w.length ≤ 9223372036854775807) (stp : List Int) (hs : stp.length ≤ 9223372036854775807) : Dm.Spec Try.prog 17 [.ag (graD g), .sl 1 (i64s w), .sl 1 (i64s stp)] (fun d => pkP g w stp d) := by
  refine spec_of_vc mixed Try.func17 c17 (by rw [show Try.f17.ntmps=_ from Try.ntmps17];simp) ?_
  unfold m17 r17
  repeat' first|((first|refine Br.dec ?_ ?_|refine Br.eqi ?_ ?_)<;>intro h<;>try (exfalso;omega))|refine Z0 ?_|with_reducible exact trivial|(refine Br.mk ?_ ?_<;>intro h)|(refine BrN.mk (fun h => ?_) ?_)|(refine AltVC.mk ?_ ?_)
  refine CallVC.lendE [] [.ag (graD g),.sl 1 (i64s w)] [] (whole_spec g hg w hw) (by simp) (by rfl) Y13 ?_
  rintro _ _ (⟨h1,h2,L,rfl,rfl,hL⟩|⟨c,h1,h2,h3,rfl⟩)
  · have e:trC g w=0:=by unfold trC;rw [if_pos h1,if_neg (by omega)]
    obtain ⟨hc,_,_⟩:=cc_ok e
    have hk:=hc.v.k
    have hn:=hc.v.n
    have hst:=hc.v.start
    have hw12:=hc.w
    by_cases hl:60<stp.length
    · repeat' first|((first|refine Br.dec ?_ ?_|refine Br.eqi ?_ ?_)<;>intro h<;>try (exfalso;omega))|refine Z0 ?_|with_reducible exact trivial|(refine Br.mk ?_ ?_<;>intro h)|(refine BrN.mk (fun h => ?_) ?_)|(refine AltVC.mk ?_ ?_)
      exact fin_mk (.inr (.inl ⟨e,hl,rfl⟩))
    have hgr:=grow_spec g hc.v (g.k+g.start) ⟨by omega,by omega⟩ stp (by omega)
    have hnone:(∀ r ks wd,Gr g [g.k+g.start] stp ks wd r→¬ (r=[]∧wd=w))→∀ K,¬ Tk g w [g.k+g.start] 0 [w.length] stp K:=fun h K hK=>by
      obtain ⟨_,h5⟩:=Tk.gr hK (by simp [stA])
      obtain ⟨ks,h6⟩:=h5 []
      rw [List.append_nil] at h6
      refine h _ _ _ h6 ⟨rfl,?_⟩
      simp [stA]
    repeat' first|((first|refine Br.dec ?_ ?_|refine Br.eqi ?_ ?_)<;>intro h<;>try (exfalso;omega))|refine Z0 ?_|with_reducible exact trivial|(refine Br.mk ?_ ?_<;>intro h)|(refine BrN.mk (fun h => ?_) ?_)|(refine AltVC.mk ?_ ?_)
    refine CallVC.mk hgr ?_
    rintro _ (⟨q,K,wd,r,rfl,hK,hG⟩|⟨rfl,hno⟩)
    · have hwl2:=hG.wlen (fun q hq=>hc.v.long _ (getD_mem' (l:=g.rules) (i:=q) hq))
      rw [List.length_singleton] at hwl2
      have heq:=equalI_spec wd w (by omega) (by omega)
      by_cases hr:r=[]
      · subst hr
        by_cases hwe:wd=w
        · obtain ⟨es,st1,K1,e1,hTg,e3,_⟩:=hG.tg hc.p 0 (by rw [List.drop_zero,hwe,List.take_length])
          rw [List.append_nil] at e1
          subst e1
          have hle:=hTg.len.1
          match es,hle with
          | [e0],_ =>
          have he0:e0=w.length:=by
            have:e0=0+wd.length:=e3
            rw [hwe] at this;omega
          subst he0
          have hpl:=place_spec g w hc (g.k+g.start) 0 w.length (by omega) (by omega) (Nat.zero_le _) (Nat.le_refl _) h2 _ _ _ hTg L hL
          rw [decide_eq_true hwe] at heq
          rcases hK with rfl|⟨es,rfl⟩
          · repeat' first|((first|refine Br.dec ?_ ?_|refine Br.eqi ?_ ?_)<;>intro h<;>try (exfalso;omega))|refine Z0 ?_|with_reducible exact trivial|(refine Br.mk ?_ ?_<;>intro h)|(refine BrN.mk (fun h => ?_) ?_)|(refine AltVC.mk ?_ ?_)
            refine CallVC.eq heq ?_
            repeat' first|((first|refine Br.dec ?_ ?_|refine Br.eqi ?_ ?_)<;>intro h<;>try (exfalso;omega))|refine Z0 ?_|with_reducible exact trivial|(refine Br.mk ?_ ?_<;>intro h)|(refine BrN.mk (fun h => ?_) ?_)|(refine AltVC.mk ?_ ?_)
            refine CallVC.lendE [4,3] [.ptr 0 6 0 0,.ag [iv .i64 q,.nl,.sl 1 (i64s wd)],.ag [iv .i64 (0:Nat),iv .i64 w.length]] (coO g w L) hpl (by simp) (by rfl) Y2 ?_
            rintro _ _ ⟨L2,rfl,rfl,hL2⟩
            unfold coO
            repeat' first|((first|refine Br.dec ?_ ?_|refine Br.eqi ?_ ?_)<;>intro h<;>try (exfalso;omega))|refine Z0 ?_|with_reducible exact trivial|(refine Br.mk ?_ ?_<;>intro h)|(refine BrN.mk (fun h => ?_) ?_)|(refine AltVC.mk ?_ ?_)
            exact fin_mk (.inr (.inr (.inr ⟨e,by omega,K1,hTg.tk,rfl⟩)))
          · repeat' first|((first|refine Br.dec ?_ ?_|refine Br.eqi ?_ ?_)<;>intro h<;>try (exfalso;omega))|refine Z0 ?_|with_reducible exact trivial|(refine Br.mk ?_ ?_<;>intro h)|(refine BrN.mk (fun h => ?_) ?_)|(refine AltVC.mk ?_ ?_)
            refine CallVC.eq heq ?_
            repeat' first|((first|refine Br.dec ?_ ?_|refine Br.eqi ?_ ?_)<;>intro h<;>try (exfalso;omega))|refine Z0 ?_|with_reducible exact trivial|(refine Br.mk ?_ ?_<;>intro h)|(refine BrN.mk (fun h => ?_) ?_)|(refine AltVC.mk ?_ ?_)
            refine CallVC.lendE [4,3] [.ptr 0 6 0 0,.ag [iv .i64 q,.sl 3 es,.sl 1 (i64s wd)],.ag [iv .i64 (0:Nat),iv .i64 w.length]] (coO g w L) hpl (by simp) (by rfl) Y2 ?_
            rintro _ _ ⟨L2,rfl,rfl,hL2⟩
            unfold coO
            repeat' first|((first|refine Br.dec ?_ ?_|refine Br.eqi ?_ ?_)<;>intro h<;>try (exfalso;omega))|refine Z0 ?_|with_reducible exact trivial|(refine Br.mk ?_ ?_<;>intro h)|(refine BrN.mk (fun h => ?_) ?_)|(refine AltVC.mk ?_ ?_)
            exact fin_mk (.inr (.inr (.inr ⟨e,by omega,K1,hTg.tk,rfl⟩)))
        · have hnn:=hnone fun r' ks' wd' h' hh=>hwe ((hG.det h').2.1.trans hh.2)
          rw [decide_eq_false hwe] at heq
          rcases hK with rfl|⟨es,rfl⟩
          all_goals
            repeat' first|((first|refine Br.dec ?_ ?_|refine Br.eqi ?_ ?_)<;>intro h<;>try (exfalso;omega))|refine Z0 ?_|with_reducible exact trivial|(refine Br.mk ?_ ?_<;>intro h)|(refine BrN.mk (fun h => ?_) ?_)|(refine AltVC.mk ?_ ?_)
            refine CallVC.eq heq ?_
            repeat' first|((first|refine Br.dec ?_ ?_|refine Br.eqi ?_ ?_)<;>intro h<;>try (exfalso;omega))|refine Z0 ?_|with_reducible exact trivial|(refine Br.mk ?_ ?_<;>intro h)|(refine BrN.mk (fun h => ?_) ?_)|(refine AltVC.mk ?_ ?_)
            exact fin_mk (.inr (.inr (.inl ⟨e,by omega,hnn,rfl⟩)))
      · have hnn:=hnone fun r' ks' wd' h' hh=>hr ((hG.det h').2.2.trans hh.1)
        have hr0:=List.length_pos_iff.2 hr
        rcases hK with rfl|⟨es,rfl⟩
        all_goals
          repeat' first|((first|refine Br.dec ?_ ?_|refine Br.eqi ?_ ?_)<;>intro h<;>try (exfalso;omega))|refine Z0 ?_|with_reducible exact trivial|(refine Br.mk ?_ ?_<;>intro h)|(refine BrN.mk (fun h => ?_) ?_)|(refine AltVC.mk ?_ ?_)
          exact fin_mk (.inr (.inr (.inl ⟨e,by omega,hnn,rfl⟩)))
    · have hnn:=hnone fun r' ks' wd' h' hh=>hno _ _ _ h'
      repeat' first|((first|refine Br.dec ?_ ?_|refine Br.eqi ?_ ?_)<;>intro h<;>try (exfalso;omega))|refine Z0 ?_|with_reducible exact trivial|(refine Br.mk ?_ ?_<;>intro h)|(refine BrN.mk (fun h => ?_) ?_)|(refine AltVC.mk ?_ ?_)
      exact fin_mk (.inr (.inr (.inl ⟨e,by omega,hnn,rfl⟩)))
  · have e:trC g w=c:=by
      unfold trC
      by_cases ht:tcode g w=0
      · rw [if_pos ht] at h2
        rw [if_pos ht,if_pos (h3 ht),h2]
      · rw [if_neg ht] at h2
        rw [if_neg ht,h2]
    repeat' first|((first|refine Br.dec ?_ ?_|refine Br.eqi ?_ ?_)<;>intro h<;>try (exfalso;omega))|refine Z0 ?_|with_reducible exact trivial|(refine Br.mk ?_ ?_<;>intro h)|(refine BrN.mk (fun h => ?_) ?_)|(refine AltVC.mk ?_ ?_)
    exact fin_mk (.inl ⟨by rw [e];exact h1,by rw [e]⟩)
end Go.Proofs.Ytjekkbpdgnohcaa

namespace Go.Proofs.Ytjekkbpdgnohcaa
open Go.Dm
def doR (g:Grammar) (d:Deed) (x:D) (o:List (Option Ob)):Prop := ∃ t,x=.ag (tlD t)∧TR g d t ∧ ∃ L',o=[some (stB (nxG g d) L')]∧MA (nxG g d) L'
theorem do_fin {g:Grammar} {d:Deed} {s:S} {x:D} {L:List AK} (t:Tl) (h1:1≤s.N) (h2:fitL s 1 0 [some (stB (nxG g d) L)]) (hx:x.trim 1=.ag (tlD t)) (ht:TR g d t) (hL:MA (nxG g d) L):FinH 1 (doR g d) s x :=
  finH_mk [some (stB (nxG g d) L)] (by simp) (by simpa using h1) (by simpa using h2) ⟨t,hx,ht,L,rfl,hL⟩
theorem tl_appN {l:List Tl} {c n:Int}:tbl tlD l++[[D.v (.int .i64 c),D.v (.int .i64 n),D.nl]]=tbl tlD (l++[⟨c,n,[],true⟩]):=by rw [tbl_app];rfl
theorem tl_appS {l:List Tl} {c n:Int} {st:List Int}:tbl tlD l++[[D.v (.int .i64 c),D.v (.int .i64 n),D.sl 1 (i64s st)]]=tbl tlD (l++[⟨c,n,st,false⟩]):=by rw [tbl_app];rfl
theorem tlD_N {c n:Int} {st:List Int}:tlD ⟨c,n,st,true⟩=[D.v (.int .i64 c),D.v (.int .i64 n),D.nl]:=(rfl)
theorem tlD_S {c n:Int} {st:List Int}:tlD ⟨c,n,st,false⟩=[D.v (.int .i64 c),D.v (.int .i64 n),D.sl 1 (i64s st)]:=(rfl)
def vpl:=And.intro vsu<|And.intro @tl_appN<|And.intro @tl_appS<|And.intro @tlD_N @tlD_S
set_option maxRecDepth 10000 in
set_option maxHeartbeats 4000000 in
theorem do_spec (g : Grammar) (hv : VG g) (hg : g.ok) (d : Deed) (hd : okD d) (L : List AK) (hL : MA g L) : Dm.SpecH Try.prog 23 [.ptr 0 5 0 0, .ag (deeD d)] [stB g L] (doR g d) := by
  refine specH_of_vc mixed Try.func23 c23 (by rw [show Try.f23.ntmps=_ from Try.ntmps23];simp) ?_
  unfold m23 r23
  have hlen:=(valid_of hv.1).len
  have hw:=hd.1.2.2.1
  have hwl:=maxLen_le hw.1
  have hn:=hd.1.2.2.2.1
  have hsl:=maxLen_le hd.1.2.2.2.2.1
  unfold stB
  by_cases h1:d.kind=1
  · have en:nxG g d=rule2G g d.rule:=by unfold nxG;rw [if_pos h1];rfl
    repeat' first|((first|refine Br.dec ?_ ?_|refine Br.eqi ?_ ?_)<;>intro h<;>try (exfalso;omega))|refine Z3 ?_|with_reducible exact trivial|(refine Br.mk ?_ ?_<;>intro h)|(refine BrN.mk (fun h => ?_) ?_)|(refine AltVC.mk ?_ ?_)
    refine CallVC.lendE [0] [.ptr 0 5 0 0,.ag (rulD d.rule)] [stB g L] (rule_spec g hv hg d.rule ⟨hd.1.2.1,hd.2⟩ L hL) (by simp) (by rfl) Y17 ?_
    rintro _ _ ⟨rfl,L',rfl,hL'⟩
    unfold stB
    repeat' first|((first|refine Br.dec ?_ ?_|refine Br.eqi ?_ ?_)<;>intro h<;>try (exfalso;omega))|refine Z3 ?_|with_reducible exact trivial|(refine Br.mk ?_ ?_<;>intro h)|(refine BrN.mk (fun h => ?_) ?_)|(refine AltVC.mk ?_ ?_)
    exact do_fin (L:=L') ⟨rcode g d.rule,if rcode g d.rule=0 then (g.rules.length:Int) else 0,[],true⟩ Y1 Y8 Y1 ⟨.rule h1,fun _=>rfl⟩ (by rw [en];exact hL')
  by_cases h2:d.kind=2
  · by_cases hl:g.rules.length=0
    · have en:nxG g d=g:=by unfold nxG;rw [if_neg h1,if_pos h2,if_pos hl]
      have ht:=TO.undo (g:=g) h2
      rw [if_pos hl] at ht
      repeat' first|((first|refine Br.dec ?_ ?_|refine Br.eqi ?_ ?_)<;>intro h<;>try (exfalso;omega))|refine Z3 ?_|with_reducible exact trivial|(refine Br.mk ?_ ?_<;>intro h)|(refine BrN.mk (fun h => ?_) ?_)|(refine AltVC.mk ?_ ?_)
      exact do_fin (L:=L) ⟨5,0,[],true⟩ Y1 Y8 Y1 ⟨ht,fun _=>rfl⟩ (by rw [en];exact hL)
    · have en:nxG g d=dropR g:=by unfold nxG;rw [if_neg h1,if_pos h2,if_neg hl]
      have ht:=TO.undo (g:=g) h2
      rw [if_neg hl] at ht
      have e1:((g.rules.length:Int) - 1).toNat=g.rules.length - 1:=by omega
      repeat' first|((first|refine Br.dec ?_ ?_|refine Br.eqi ?_ ?_)<;>intro h<;>try (exfalso;omega))|(simp (disch:=first|omega|(simp only [vlen];first|done|omega)) only [e1,vpl,↓vAq,vBq,↓reduceIte,Nat.reduceBEq,Nat.reduceEqDiff,Nat.reduceLT,Nat.reduceLeDiff,Nat.reduceAdd,Nat.reduceMul,Nat.reduceSub,reduceCtorEq,Int.reduceToNat])|(refine Br.mk ?_ ?_<;>intro h)|(refine BrN.mk (fun h => ?_) ?_)|(refine AltVC.mk ?_ ?_)
      refine CallVC.lendE [] [.sl 2 (tbl rulD (g.rules.take (g.rules.length - 1)))] [] (cloneB_rule (g.rules.take (g.rules.length - 1)) (by simp;omega)) (by simp) (by rfl) Y13 ?_
      rintro _ _ ⟨rfl,rfl⟩
      repeat' first|((first|refine Br.dec ?_ ?_|refine Br.eqi ?_ ?_)<;>intro h<;>try (exfalso;omega))|refine Z3 ?_|with_reducible exact trivial|(refine Br.mk ?_ ?_<;>intro h)|(refine BrN.mk (fun h => ?_) ?_)|(refine AltVC.mk ?_ ?_)
      refine CallVC.frz 4 ?_
      repeat' first|((first|refine Br.dec ?_ ?_|refine Br.eqi ?_ ?_)<;>intro h<;>try (exfalso;omega))|refine Z3 ?_|with_reducible exact trivial|(refine Br.mk ?_ ?_<;>intro h)|(refine BrN.mk (fun h => ?_) ?_)|(refine AltVC.mk ?_ ?_)
      refine CallVC.lendE [0] [.ptr 0 5 0 0,.sl 2 (tbl rulD (g.rules.take (g.rules.length - 1)))] [stB g L] (set_spec g L (g.rules.take (g.rules.length - 1))) (by simp) (by rfl) Y17 ?_
      rintro _ _ ⟨rfl,rfl⟩
      unfold stB
      repeat' first|((first|refine Br.dec ?_ ?_|refine Br.eqi ?_ ?_)<;>intro h<;>try (exfalso;omega))|refine Z3 ?_|with_reducible exact trivial|(refine Br.mk ?_ ?_<;>intro h)|(refine BrN.mk (fun h => ?_) ?_)|(refine AltVC.mk ?_ ?_)
      exact do_fin (L:=[]) ⟨0,0,[],true⟩ Y1 (by rw [en];unfold stB dropR;simp (disch:=first|omega|(simp only [vlen];first|done|omega)) only [vpl,↓vAq,vBq,↓reduceIte,Nat.reduceBEq,Nat.reduceEqDiff,Nat.reduceLT,Nat.reduceLeDiff,Nat.reduceAdd,Nat.reduceMul,Nat.reduceSub,reduceCtorEq,Int.reduceToNat]) Y1 ⟨ht,fun _=>rfl⟩ MA.nil
  have en:nxG g d=g:=by unfold nxG;rw [if_neg h1,if_neg h2]
  by_cases h3:d.kind=3
  · repeat' first|((first|refine Br.dec ?_ ?_|refine Br.eqi ?_ ?_)<;>intro h<;>try (exfalso;omega))|refine Z3 ?_|with_reducible exact trivial|(refine Br.mk ?_ ?_<;>intro h)|(refine BrN.mk (fun h => ?_) ?_)|(refine AltVC.mk ?_ ?_)
    refine CallVC.lendE [0] [.ptr 0 5 0 0,.sl 1 (i64s d.word)] [stB g L] (stTrees_spec g hv hg d.word hw L hL) (by simp) (by rfl) Y17 ?_
    rintro _ _ ⟨rfl,L',rfl,hL'⟩
    unfold stB
    repeat' first|((first|refine Br.dec ?_ ?_|refine Br.eqi ?_ ?_)<;>intro h<;>try (exfalso;omega))|refine Z3 ?_|with_reducible exact trivial|(refine Br.mk ?_ ?_<;>intro h)|(refine BrN.mk (fun h => ?_) ?_)|(refine AltVC.mk ?_ ?_)
    exact do_fin (L:=L') ⟨trC g d.word,akN g d.word,[],true⟩ Y1 Y8 Y1 ⟨.many h3,fun _=>rfl⟩ (by rw [en];exact hL')
  by_cases h4:d.kind=4
  · repeat' first|((first|refine Br.dec ?_ ?_|refine Br.eqi ?_ ?_)<;>intro h<;>try (exfalso;omega))|refine Z3 ?_|with_reducible exact trivial|(refine Br.mk ?_ ?_<;>intro h)|(refine BrN.mk (fun h => ?_) ?_)|(refine AltVC.mk ?_ ?_)
    refine GhoV.go ?_
    repeat' first|((first|refine Br.dec ?_ ?_|refine Br.eqi ?_ ?_)<;>intro h<;>try (exfalso;omega))|refine Z3 ?_|with_reducible exact trivial|(refine Br.mk ?_ ?_<;>intro h)|(refine BrN.mk (fun h => ?_) ?_)|(refine AltVC.mk ?_ ?_)
    refine CallVC.mk (pick_spec g hg d.word hwl d.n hn) ?_
    rintro _ (⟨e,rfl⟩|⟨e,hin,rfl⟩|⟨e,r,st,hi,hr,hT,hd⟩)
    · repeat' first|((first|refine Br.dec ?_ ?_|refine Br.eqi ?_ ?_)<;>intro h<;>try (exfalso;omega))|refine Z3 ?_|with_reducible exact trivial|(refine Br.mk ?_ ?_<;>intro h)|(refine BrN.mk (fun h => ?_) ?_)|(refine AltVC.mk ?_ ?_)
      exact do_fin (L:=L) ⟨trC g d.word,0,[],false⟩ Y1 Y8 Y29 ⟨.pickC h4 e,fun _=>rfl⟩ (by rw [en];exact hL)
    · repeat' first|((first|refine Br.dec ?_ ?_|refine Br.eqi ?_ ?_)<;>intro h<;>try (exfalso;omega))|refine Z3 ?_|with_reducible exact trivial|(refine Br.mk ?_ ?_<;>intro h)|(refine BrN.mk (fun h => ?_) ?_)|(refine AltVC.mk ?_ ?_)
      exact do_fin (L:=L) ⟨5,0,[],false⟩ Y1 Y8 Y29 ⟨.pickN h4 e hin,fun _=>rfl⟩ (by rw [en];exact hL)
    · rcases hd with rfl|⟨rfl,rfl⟩
      · repeat' first|((first|refine Br.dec ?_ ?_|refine Br.eqi ?_ ?_)<;>intro h<;>try (exfalso;omega))|refine Z3 ?_|with_reducible exact trivial|(refine Br.mk ?_ ?_<;>intro h)|(refine BrN.mk (fun h => ?_) ?_)|(refine AltVC.mk ?_ ?_)
        exact do_fin (L:=L) ⟨0,0,st,false⟩ Y1 Y8 Y1 ⟨.pick h4 e r st hi hr hT,fun h=>by cases h⟩ (by rw [en];exact hL)
      · repeat' first|((first|refine Br.dec ?_ ?_|refine Br.eqi ?_ ?_)<;>intro h<;>try (exfalso;omega))|refine Z3 ?_|with_reducible exact trivial|(refine Br.mk ?_ ?_<;>intro h)|(refine BrN.mk (fun h => ?_) ?_)|(refine AltVC.mk ?_ ?_)
        exact do_fin (L:=L) ⟨0,0,[],true⟩ Y1 Y8 Y1 ⟨.pick h4 e r [] hi hr hT,fun _=>rfl⟩ (by rw [en];exact hL)
  by_cases h5:d.kind=5
  · repeat' first|((first|refine Br.dec ?_ ?_|refine Br.eqi ?_ ?_)<;>intro h<;>try (exfalso;omega))|refine Z3 ?_|with_reducible exact trivial|(refine Br.mk ?_ ?_<;>intro h)|(refine BrN.mk (fun h => ?_) ?_)|(refine AltVC.mk ?_ ?_)
    refine GhoV.go ?_
    repeat' first|((first|refine Br.dec ?_ ?_|refine Br.eqi ?_ ?_)<;>intro h<;>try (exfalso;omega))|refine Z3 ?_|with_reducible exact trivial|(refine Br.mk ?_ ?_<;>intro h)|(refine BrN.mk (fun h => ?_) ?_)|(refine AltVC.mk ?_ ?_)
    refine CallVC.mk (place2_spec g hg d.word hwl d.steps hsl) ?_
    rintro _ (⟨e,rfl⟩|⟨e,hl,rfl⟩|⟨e,hl,hno,rfl⟩|⟨e,hl,K,hT,rfl⟩)
    · repeat' first|((first|refine Br.dec ?_ ?_|refine Br.eqi ?_ ?_)<;>intro h<;>try (exfalso;omega))|refine Z3 ?_|with_reducible exact trivial|(refine Br.mk ?_ ?_<;>intro h)|(refine BrN.mk (fun h => ?_) ?_)|(refine AltVC.mk ?_ ?_)
      exact do_fin (L:=L) ⟨trC g d.word,0,[],true⟩ Y1 Y8 Y1 ⟨.plC h5 e,fun _=>rfl⟩ (by rw [en];exact hL)
    · repeat' first|((first|refine Br.dec ?_ ?_|refine Br.eqi ?_ ?_)<;>intro h<;>try (exfalso;omega))|refine Z3 ?_|with_reducible exact trivial|(refine Br.mk ?_ ?_<;>intro h)|(refine BrN.mk (fun h => ?_) ?_)|(refine AltVC.mk ?_ ?_)
      exact do_fin (L:=L) ⟨1,0,[],true⟩ Y1 Y8 Y1 ⟨.plL h5 e hl,fun _=>rfl⟩ (by rw [en];exact hL)
    · repeat' first|((first|refine Br.dec ?_ ?_|refine Br.eqi ?_ ?_)<;>intro h<;>try (exfalso;omega))|refine Z3 ?_|with_reducible exact trivial|(refine Br.mk ?_ ?_<;>intro h)|(refine BrN.mk (fun h => ?_) ?_)|(refine AltVC.mk ?_ ?_)
      exact do_fin (L:=L) ⟨5,0,[],true⟩ Y1 Y8 Y1 ⟨.plN h5 e hl hno,fun _=>rfl⟩ (by rw [en];exact hL)
    · repeat' first|((first|refine Br.dec ?_ ?_|refine Br.eqi ?_ ?_)<;>intro h<;>try (exfalso;omega))|refine Z3 ?_|with_reducible exact trivial|(refine Br.mk ?_ ?_<;>intro h)|(refine BrN.mk (fun h => ?_) ?_)|(refine AltVC.mk ?_ ?_)
      exact do_fin (L:=L) ⟨0,K,[],true⟩ Y1 Y8 Y1 ⟨.pl h5 e hl K hT,fun _=>rfl⟩ (by rw [en];exact hL)
  · repeat' first|((first|refine Br.dec ?_ ?_|refine Br.eqi ?_ ?_)<;>intro h<;>try (exfalso;omega))|refine Z3 ?_|with_reducible exact trivial|(refine Br.mk ?_ ?_<;>intro h)|(refine BrN.mk (fun h => ?_) ?_)|(refine AltVC.mk ?_ ?_)
    exact do_fin (L:=L) ⟨6,0,[],true⟩ Y1 Y8 Y1 ⟨.none (by omega),fun _=>rfl⟩ (by rw [en];exact hL)
def tlS (t:Tl):List D:=[iv .i64 t.c,iv .i64 t.n,.sl 1 (i64s t.st)]
theorem tlS_eq {t:Tl}:tlS t=[iv .i64 t.c,iv .i64 t.n,.sl 1 (i64s t.st)]:=(rfl)
def g0 (k n:Int):Grammar:=⟨k,n,0,[]⟩
def TRs (g:Grammar) (ds:List Deed) (l:List Tl):Prop:=l.length=ds.length∧∀ i,i<l.length→TR (nxs g (ds.take i)) (ds.getD i default) (l.getD i default)
def plyR (k n:Int) (ds:List Deed) (d:D):Prop :=
  (gcode (g0 k n) ≠ 0∧d=.tu [.sl 3 [],iv .i64 (gcode (g0 k n))])∨(gcode (g0 k n)=0∧40<ds.length∧d=.tu [.sl 3 [],iv .i64 1]) ∨
  (gcode (g0 k n)=0∧ds.length≤40 ∧ ∃ l,d=.tu [.sl 3 (tbl tlS l),iv .i64 0]∧TRs (g0 k n) ds l)
theorem TRs.snoc {g:Grammar} {ds:List Deed} {i:Nat} {l:List Tl} {t:Tl} (hi:i<ds.length) (h:TRs g (ds.take i) l) (ht:TR (nxs g (ds.take i)) (ds.getD i default) t):TRs g (ds.take (i+1)) (l++[t]):=by
  have hl:l.length=i:=by rw [h.1,List.length_take];omega
  refine ⟨by simp [hl];omega,fun j hj => ?_⟩
  have hj':j<i+1:=by simpa [hl] using hj
  rw [List.take_take,Nat.min_eq_left (by omega)]
  by_cases e:j=i
  · subst e
    have e1:(ds.take (j+1)).getD j default=ds.getD j default:=by simp [List.getD_eq_getElem?_getD]
    have e2:(l++[t]).getD j default=t:=by simp [List.getD_eq_getElem?_getD,← hl]
    rw [e1,e2];exact ht
  · have hji:j<i:=by omega
    have h3:=h.2 j (by omega)
    rw [List.take_take,Nat.min_eq_left (by omega)] at h3
    have e1:(ds.take (i+1)).getD j default=(ds.take i).getD j default:=by simp [List.getD_eq_getElem?_getD,hji,hj']
    have e2:(l++[t]).getD j default=l.getD j default:=by simp [List.getD_eq_getElem?_getD,List.getElem?_append_left (show j<l.length by omega)]
    rw [e1,e2];exact h3
theorem nxs_take {g:Grammar} {ds:List Deed} {i:Nat} (hi:i<ds.length):nxs g (ds.take (i+1))=nxG (nxs g (ds.take i)) (ds.getD i default):=by
  rw [take_succ_getD hi default,nxs_snoc]
theorem VG0 {k n:Int} (h:gcode (g0 k n)=0):VG (g0 k n):=⟨h,rfl⟩
theorem ok_nxs {g:Grammar} (hv:VG g) (hg:g.ok):∀ {l:List Deed},(∀ d,d ∈ l→d.ok)→(nxs g l).ok:=fun {l} hl=>by
  induction l generalizing g with
  | nil=>exact hg
  | cons d l ih=>exact ih (hv.nx d) (ok_nx hv hg (hl d (by simp))) fun x hx=>hl x (by simp [hx])
end Go.Proofs.Ytjekkbpdgnohcaa
