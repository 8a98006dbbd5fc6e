/-
  A logic for Go functions over plain data,part I: append.
-/
import Derived.Test.YtcclchnbjpncdaaMg4
import Derived.Lib.AppendZeros
set_option linter.unusedSimpArgs false
set_option linter.unusedVariables false
namespace Go.Dm
open Go.RowKit
section
variable {P:Program} {G:Gh} {s:S} {a:Act} {w:World} {A:Nat→Prop} {β:Nat→Option Nat} {γ:Nat→Option (Nat × List Nat)} {o:Oper}
structure AppOp (P:Program) (o:Oper) (x y:Operand) (e:TypeId) (sz by_:Nat):Prop where
  ex : ∃ t u e2,o.op=.call ⟨.builtin .append,#[x,y],#[t,u]⟩∧P.underlying t=some (.slice e)∧P.underlying u=some (.slice e2)
  hs:szOf P e=some sz
  hb:byOf P e=some by_
  s0:0<sz
  b0:0<by_
  z : ∃ z:Value,(∀ w,(zeroValue e).run P w=.ok z w)∧z.cells.size=sz
theorem run_grow {x y:Operand} {e:TypeId} {sz by_:Nat} (h:AppOp P o x y e sz by_) {base yb:Option Addr} {n c m yc:Nat} (hx:a.eval x=.slice base n c) (hy:a.eval y=.slice yb m yc) {old news:Array Value}
    (hold:∀ w',Same w w'→(Builtin.firstCells sz n (.slice base n c)).run P w'=.ok old w') (hnew:∀ w',Same w w'→(Builtin.firstCells sz m (.slice yb m yc)).run P w'=.ok news w') (hc:c<n+m) (hb:(n+m) * by_≤140737488355328) :
    ∃ (cap:Nat) (rest:Array Value),n+m≤cap∧rest.size=(cap - (n+m)) * sz ∧
      (execOp a.eval o).run P w=.ok (.value (.slice (some ⟨w.heap.size,0,none⟩) (n+m) cap)) (w.drew.alloc (.cells (old++news++rest) e)):=by
  obtain ⟨t,u,e2,ho,ht,hu⟩:=h.ex
  obtain ⟨z,hz,hzs⟩:=h.z
  obtain ⟨ti,hti,hbt⟩:=byOf_spec h.hb
  have hfit:=growslice_fits hc hb
  have hb0:=h.b0
  refine ⟨Question.cut (.appendCap (n+m) c e) (w.tape w.drawn (.appendCap (n+m) c e)),Builtin.zeroCells z.cells (Question.cut (.appendCap (n+m) c e) (w.tape w.drawn (.appendCap (n+m) c e)) - (n+m)),by simp [Question.cut],by rw [size_zeroCells,hzs],?_⟩
  have hsd:Same w w.drew:=fun _ _=>rfl
  have e1:¬ (n+m≤c):=by omega
  have e3:¬ (281474976710656<Builtin.nextslicecap (n+m) c * by_):=by omega
  have e4:¬ (by_=0):=by omega
  simp [execOp,ho,resolve,invoke,builtin,Builtin.append_,hx,hy,und_run ht,und_run hu,szOf_spec h.hs,typeInfo,hti,hbt,Builtin.lenOf,e1,e3,e4,Question.forced,hold _ hsd,hnew _ hsd,hz,newRow]
theorem run_room {x y:Operand} {e:TypeId} {sz by_:Nat} (h:AppOp P o x y e sz by_) {b:Nat} {yb:Option Addr} {n c m yc:Nat} (hx:a.eval x=.slice (some ⟨b,0,none⟩) n c) (hy:a.eval y=.slice yb m yc) {news:Array Value}
    (hnew:∀ w',Same w w'→(Builtin.firstCells sz m (.slice yb m yc)).run P w'=.ok news w') (hc:n+m≤c) {arr:Array Value} {T:TypeId} (hh:w.heap[b]?=some (.cells arr T (0,0))) (hl:n * sz+news.size≤arr.size) (h1:∀ u ∈ news.toList,u.oneCell'=true) :
    (execOp a.eval o).run P w=.ok (.value (.slice (some ⟨b,0,none⟩) (n+m) c)) (w.setRow b (arr.toList.take (n * sz)++news.toList++arr.toList.drop (n * sz+news.toList.length)).toArray):=by
  obtain ⟨t,u,e2,ho,ht,hu⟩:=h.ex
  have hst:=run_storeCells_at (P:=P) b (n * sz) T news.toList 0 arr w hh (by simpa using hl) h1
  simp only [Nat.add_zero] at hst
  have ha:(⟨b,0,none⟩:Addr).add (n * sz)=⟨b,n * sz,none⟩:=by rw [addr_add,Nat.zero_add]
  simp only [execOp,ho,resolve,invoke,builtin,Builtin.append_,List.map_toArray,List.map_cons,List.map_nil,Sem.run_bind,Sem.run_pure,Result.andThen_ok,hx,hy]
  simp [und_run ht,und_run hu,szOf_spec h.hs,Builtin.lenOf,hc,hnew _ (Same.refl w),ha]
  rw [Array.length_toList] at hst
  simp [hst]
theorem run_none {x y:Operand} {e:TypeId} {sz by_:Nat} (h:AppOp P o x y e sz by_) {bb yb:Option Addr} {yc:Nat} (hx:a.eval x=.slice bb 0 0) (hy:a.eval y=.slice yb 0 yc):(execOp a.eval o).run P w=.ok (.value (.slice bb 0 0)) w:=by
  obtain ⟨t,u,e2,ho,ht,hu⟩:=h.ex
  cases bb<;>cases yb<;>simp [execOp,ho,resolve,invoke,builtin,Builtin.append_,hx,hy,und_run ht,und_run hu,szOf_spec h.hs,Builtin.lenOf,Builtin.firstCells,loadCells,loadCellsFrom,storeCells]
theorem app_cells {n sz:Nat} {old news:Array Value} {rest:Array Value} {es ys:List (List D)} {fl fy:Bool} {N τ:Nat} (ho:old.size=n * sz) (hn:news.size=ys.length * sz) (hes:es.length=n)
    (h1:∀ i j,i<n→j<sz→CDR fl w A β γ N τ [i * sz+j] ((es.getD i []).getD j .junk) (old.getD (i * sz+j) undef))
    (h2:∀ i j,i<ys.length→j<sz→DR w A β N ((ys.getD i []).getD j .junk) (news.getD (i * sz+j) undef)∧(fy=true→CR w A ((ys.getD i []).getD j .junk) (news.getD (i * sz+j) undef))∧(news.getD (i * sz+j) undef).oneCell'=true) :
    ∀ i j,i<(es++ys).length→j<sz→CDR (fl && fy) w A β γ N τ [i * sz+j] (((es++ys).getD i []).getD j .junk) ((old++news++rest).getD (i * sz+j) undef):=by
  intro i j hi hj
  rw [List.length_append] at hi
  have gl:∀ (x y:Array Value) (m:Nat),m<x.size→(x++y).getD m undef=x.getD m undef:=fun x y m h=>by
    simp only [Array.getD_eq_getD_getElem?];rw [Array.getElem?_append_left h]
  have gr:∀ (x y:Array Value) (m:Nat),x.size≤m→(x++y).getD m undef=y.getD (m - x.size) undef:=fun x y m h=>by
    simp only [Array.getD_eq_getD_getElem?];rw [Array.getElem?_append_right h]
  by_cases hlt:i<n
  · have e1:(es++ys).getD i []=es.getD i []:=by simp only [List.getD_eq_getElem?_getD];rw [List.getElem?_append_left (by omega)]
    have e2:=in_row hlt hj
    rw [e1,gl _ _ _ (by simp;omega),gl _ _ _ (by omega)]
    obtain ⟨q1,q2,q3⟩:=h1 i j hlt hj
    exact ⟨q1,fun h=>q2 (h.imp (fun h=>by rw [Bool.and_eq_true] at h;exact h.1) id),q3⟩
  · have e1:(es++ys).getD i []=ys.getD (i - n) []:=by simp only [List.getD_eq_getElem?_getD];rw [List.getElem?_append_right (by omega),hes]
    obtain ⟨k,rfl⟩ : ∃ k,i=n+k:=⟨i - n,by omega⟩
    have hk:k<ys.length:=by omega
    have e2:=in_row hk hj
    have e3:(n+k) * sz+j=n * sz+(k * sz+j):=by rw [Nat.add_mul];omega
    obtain ⟨q1,q2,q3⟩:=h2 k j hk hj
    have e4:(old++news++rest).getD ((n+k) * sz+j) undef=news.getD (k * sz+j) undef:=by
      rw [e3,gl _ _ _ (by simp;omega),gr _ _ _ (by omega),ho,show n * sz+(k * sz+j) - n * sz=k * sz+j by omega]
    rw [e1,show n+k - n=k by omega,e4]
    refine ⟨fun _=>q1,fun h => ?_,q3⟩
    rcases h with h|h
    · rw [Bool.and_eq_true] at h;exact .cr _ _ _ (q2 h.2)
    · rw [dr_no q1] at h;cases h
theorem appO_mapc {τ n:Nat} {ob:Ob} {ys:List (List D)} {fy:Bool}:appO τ n ob ys fy=(⟨ob.sz,ob.es.take n++ys,ob.flat && fy,ob.ow,ob.kd⟩:Ob).mapc (D.lf (killL τ)):=by
  unfold appO Ob.mapc
  cases h:(ob.flat && fy)<;>simp [D.kill]
  rfl
theorem isInt_spec {t:TypeId} (h:isInt P t=true) : ∃ k,P.underlying t=some (.int k):=by
  unfold isInt at h
  split at h
  · next k e=>exact ⟨k,e⟩
  · cases h
theorem ef_appz {x l : Operand} {x' y : O} {t tn e : TypeId} {sz by_ : Nat} {zero : List D} {K : S → Prop} (ho : o.op = .call { callee := .builtin .append, args := #[x, l], argTypes := #[t, tn] }) (ht : isSlice P t = some e) (htn : isInt P tn = true) (hs : szOf P e = some sz) (hz : zOf P e = some zero) (hb : byOf P e = some by_)
    (hzl:zero.length=sz) (hs0:0<sz) (hb0:0<by_) (hx:cO x=some x') (hl:cO l=some y) (hd:∀ t,o.dst=some t→t<G.nt∧∀ y,¬ G.T t y) (h:kAppz s o.dst sz zero by_ K (s.g x') (s.g y)) (g:GR G s a w A β γ):Does false P G a w o K:=by
  have ex:=g.evalO hx
  have ev:=g.evalO hl
  unfold kAppz at h
  split at h
  · next z hxx hzz =>
    obtain ⟨⟨h0,h1⟩,hk⟩:=h
    rw [hzz] at ev
    rw [hxx] at ex
    have e1:=dr_v ev
    have e0:a.eval x=.slice none 0 0:=by
      generalize a.eval x=v at ex
      cases ex with
      | cl d x h'=>cases h';rfl
    obtain ⟨v,hv,hn,hc⟩:=zOf_spec hz
    obtain ⟨ti,hti,hbt⟩:=byOf_spec hb
    obtain ⟨kn,hkn⟩:=isInt_spec htn
    have hti0:ti.zero=some v:=by
      have:=hv w
      simp only [zeroValue,typeInfo,hti,Sem.run_bind,Sem.run_pure] at this
      cases hz0:ti.zero<;>simp_all
    have hsz:ti.size=sz:=by
      unfold szOf at hs
      rw [hti] at hs
      simpa using hs
    obtain ⟨n,rfl⟩ : ∃ n:Nat,z=n:=⟨z.toNat,by omega⟩
    have hvl:v.cells.size=sz:=by rw [hn,hzl]
    have hby:(n:Int) * (by_:Int)=((n * by_:Nat):Int):=by simp
    rw [hby] at h1
    have hn47:n≤140737488355328:=Nat.le_trans (Nat.le_mul_of_pos_right n hb0) (by omega)
    have r:=Go.Lib.run_append_nil_zeros (P:=P) w t tn o.type e ti v .i64 kn (isSlice_spec ht) hkn hti hti0 n (by omega) (by omega) (by omega) (by rw [hbt];omega)
    have hcap:n≤grownCap w n 0 e:=by simp [grownCap,Question.cut]
    have hrun:(execOp a.eval o).run P w=.ok (.value (.slice (some ⟨w.heap.size,0,none⟩) n (grownCap w n 0 e))) (w.drew.alloc (.cells (Builtin.zeroCells v.cells n++Builtin.zeroCells v.cells (grownCap w n 0 e - n)) e)):=by
      simp only [execOp,ho,resolve,invoke,builtin,Sem.run_bind,Sem.run_pure,Result.andThen_ok,List.map_toArray,List.map_cons,List.map_nil,e0,e1,r]
    refine Does.value hrun hk (newt_rows g hd (w1:=w.drew) ⟨rfl,rfl,rfl,Nat.le_refl _,fun _ _=>rfl⟩ rfl ?_ (fun i hi => ?_) (fun i j hi hj => ?_) (fun β' eb => ?_))
    · simp [size_zeroCells,hvl]
    · simp only [List.length_replicate] at hi
      have hi':i<n:=by simpa using hi
      simp [List.getD,hi',hzl]
    · simp only [List.length_replicate,Int.toNat_natCast] at hi hj ⊢
      have hlt:=in_row hi hj
      have e2:(List.replicate n zero).getD i []=zero:=by simp [List.getD,hi]
      have e3:(Builtin.zeroCells v.cells n++Builtin.zeroCells v.cells (grownCap w n 0 e - n)).getD (i * sz+j) undef=v.cells.getD j undef:=by
        have hm:(i * sz+j) % sz=j:=by rw [Nat.mul_comm,Nat.mul_add_mod];exact Nat.mod_eq_of_lt hj
        have hj':j<v.cells.size:=by rw [hvl];exact hj
        simp only [Array.getD_eq_getD_getElem?]
        rw [Array.getElem?_append_left (by rw [size_zeroCells,hvl];exact hlt)]
        simp only [Builtin.zeroCells,Array.getElem?_map,hvl,Array.getElem?_range,hlt,if_true,Option.map_some,Option.getD_some,hm]
        simp [hj']
      simp only [e2,e3]
      have:=(hc w.drew A j (by rw [hzl];exact hj)).1
      exact ⟨.cl _ _ this,fun _=>this,dr_one (β:=β) (N:=0) (.cl _ _ this) (hc w.drew A j (by rw [hzl];exact hj)).2.1⟩
    · have:=DR.ref (w:=w.drew.alloc (.cells (Builtin.zeroCells v.cells n++Builtin.zeroCells v.cells (grownCap w n 0 e - n)) e)) (A:=A) s.N sz 0 n (grownCap w n 0 e) w.heap.size _ _ (Nat.lt_succ_self _) eb hcap (heap_new _ _) (by
        simp only [Array.size_append,size_zeroCells,hvl,Nat.zero_add]
        rw [← Nat.add_mul]
        exact Nat.mul_le_mul_right _ (by omega))
      simpa using this
  · exact h.elim
theorem run_room_off {x y:Operand} {e:TypeId} {sz by_:Nat} (h:AppOp P o x y e sz by_) {b o0:Nat} {yb:Option Addr} {n c m yc:Nat} (hx:a.eval x=.slice (some ⟨b,o0,none⟩) n c) (hy:a.eval y=.slice yb m yc) {news:Array Value}
    (hnew:∀ w',Same w w'→(Builtin.firstCells sz m (.slice yb m yc)).run P w'=.ok news w') (hc:n+m≤c) {arr:Array Value} {T:TypeId} (hh:w.heap[b]?=some (.cells arr T (0,0))) (hl:o0+n * sz+news.size≤arr.size) (h1:∀ u ∈ news.toList,u.oneCell'=true) :
    (execOp a.eval o).run P w=.ok (.value (.slice (some ⟨b,o0,none⟩) (n+m) c)) (w.setRow b (arr.toList.take (o0+n * sz)++news.toList++arr.toList.drop (o0+n * sz+news.toList.length)).toArray):=by
  obtain ⟨t,u,e2,ho,ht,hu⟩:=h.ex
  have hst:=run_storeCells_at (P:=P) b (o0+n * sz) T news.toList 0 arr w hh (by simpa using hl) h1
  simp only [Nat.add_zero] at hst
  have ha:(⟨b,o0,none⟩:Addr).add (n * sz)=⟨b,o0+n * sz,none⟩:=by rw [addr_add]
  simp only [execOp,ho,resolve,invoke,builtin,Builtin.append_,List.map_toArray,List.map_cons,List.map_nil,Sem.run_bind,Sem.run_pure,Result.andThen_ok,hx,hy]
  simp [und_run ht,und_run hu,szOf_spec h.hs,Builtin.lenOf,hc,hnew _ (Same.refl w),ha]
  rw [Array.length_toList] at hst
  simp [hst]
theorem cdr_path {fl:Bool} {τ N:Nat} {π π':List Nat} {d:D} {x:Value} (h:CDR fl w A β γ N τ π d x) (hd:d.isOwn=false):CDR fl w A β γ N τ π' d x:=by
  refine ⟨h.1,fun hf => ?_,h.2.2⟩
  have:=h.2.1 hf
  cases this with
  | cr _ _ _ k=>exact .cr _ _ _ k
  | own0=>simp [D.isOwn] at hd
  | own=>simp [D.isOwn] at hd
  | omp=>simp [D.isOwn] at hd
theorem app_off {x y : Operand} {e : TypeId} {sz by_ : Nat} {K : S → Prop} (h : AppOp P o x y e sz by_) (hd : ∀ t, o.dst = some t → t < G.nt ∧ ∀ y, ¬ G.T t y) {τ off n : Nat} {ob : Ob} {ys : List (List D)} {fy : Bool} (ex : DR w A β s.N (.ref τ sz off n) (a.eval x)) (hM : s.M τ = some ob)
    {yb:Option Addr} {yc:Nat} {news:Array Value} (ev:a.eval y=.slice yb ys.length yc) (hns:news.size=ys.length * sz) (hnew:∀ w',Same w w'→(Builtin.firstCells sz ys.length (.slice yb ys.length yc)).run P w'=.ok news w')
    (hyl:∀ i,i<ys.length→(ys.getD i []).length=sz) (hyr:∀ i j,i<ys.length→j<sz→DR w A β s.N ((ys.getD i []).getD j .junk) (news.getD (i * sz+j) undef)∧(fy=true→CR w A ((ys.getD i []).getD j .junk) (news.getD (i * sz+j) undef))∧(news.getD (i * sz+j) undef).oneCell'=true)
    (hobs:ob.sz=sz) (hle:off+n≤ob.es.length) (hka:ob.kd.isArr=true) (how:ob.ow=false) (hbnd:(n+ys.length) * by_≤140737488355328)
    (hk1:K (((s.kill τ).setM τ (appO τ (off+n) ob ys fy)).put o.dst (.ref τ sz off (n+ys.length)))) (hk2:K (((s.kill τ).setM τ (appO τ n ⟨ob.sz,ob.es.drop off,ob.flat,ob.ow,ob.kd⟩ ys fy)).put o.dst (.ref τ sz 0 (n+ys.length))))
    (g:GR G s a w A β γ):Does false P G a w o K:=by
  subst hobs
  have hMn:s.M τ ≠ none:=by rw [hM];simp
  have hkm:ob.kd.isMap=false:=by cases hq:ob.kd<;>first|rfl|(rw [hq] at hka;cases hka)
  generalize hvx:a.eval x=vx at ex
  have hτ:τ<s.N:=by
    cases ex with
    | cl d x h'=>cases h'
    | ref=>assumption
    | refz=>assumption
  have hor:=g.hr.objs τ ob hτ hM
  have hno:=hor.2.1 how
  have gtk:∀ (L:List (List D)) (m i:Nat),i<m→(L.take m++ys).getD i []=L.getD i []∨L.length≤i:=by
    intro L m i hi
    by_cases hl:i<L.length
    · left
      simp only [List.getD_eq_getElem?_getD];rw [List.getElem?_append_left (by rw [List.length_take];omega),List.getElem?_take,if_pos hi]
    · right;omega
  -- a list of rows that lies ahead of what is appended
  have pl:∀ (L:List (List D)) (m:Nat),m≤L.length→(∀ i,i<L.length→(L.getD i []).length=ob.sz)→∀ i,i<(L.take m++ys).length→((L.take m++ys).getD i []).length=ob.sz:=by
    intro L m hm hL i hi
    rw [List.length_append,List.length_take,Nat.min_eq_left hm] at hi
    by_cases h1:i<m
    · have:(L.take m++ys).getD i []=L.getD i []:=(gtk L m i h1).resolve_right (by omega)
      rw [this,hL i (by omega)]
    · have:(L.take m++ys).getD i []=ys.getD (i - m) []:=by
        simp only [List.getD_eq_getElem?_getD];rw [List.getElem?_append_right (by rw [List.length_take];omega),List.length_take,Nat.min_eq_left hm]
      rw [this];exact hyl _ (by omega)
  have po:∀ (L:List (List D)) (m:Nat),m≤L.length→(∀ i j,i<L.length→j<ob.sz→((L.getD i []).getD j .junk).isOwn=false)→∀ i j,i<(L.take m++ys).length→j<ob.sz→(((L.take m++ys).getD i []).getD j .junk).isOwn=false:=by
    intro L m hm hL i j hi hj
    rw [List.length_append,List.length_take,Nat.min_eq_left hm] at hi
    by_cases h1:i<m
    · have:(L.take m++ys).getD i []=L.getD i []:=(gtk L m i h1).resolve_right (by omega)
      rw [this];exact hL i j (by omega) hj
    · have:(L.take m++ys).getD i []=ys.getD (i - m) []:=by
        simp only [List.getD_eq_getElem?_getD];rw [List.getElem?_append_right (by rw [List.length_take];omega),List.length_take,Nat.min_eq_left hm]
      rw [this];exact dr_no (hyr (i - m) j (by omega) hj).1
  have gdr:∀ i,(ob.es.drop off).getD i []=ob.es.getD (off+i) []:=fun i=>by simp [List.getD,List.getElem?_drop]
  have hdl:(ob.es.drop off).length=ob.es.length - off:=List.length_drop
  -- into a new row
  have grow:∀ {base:Option Addr} {c:Nat} {old:Array Value},vx=.slice base n c→(∀ w',Same w w'→(Builtin.firstCells ob.sz n (.slice base n c)).run P w'=.ok old w')→old.size=n * ob.sz→c<n+ys.length →
      (∀ i j,i<n→j<ob.sz→CDR ob.flat w A β γ s.N τ [i * ob.sz+j] ((ob.es.getD (off+i) []).getD j .junk) (old.getD (i * ob.sz+j) undef))→Does false P G a w o K:=by
    intro base c old hxx hold hos hcap hrow
    obtain ⟨cap,rest,r1,r2,r3⟩:=run_grow (w:=w) h (hvx.trans hxx) ev hold hnew hcap hbnd
    let w':=w.drew.alloc (.cells (old++news++rest) e)
    let β':Nat→Option Nat:=fun σ=>if σ=τ then some w.heap.size else β σ
    let γ':Nat→Option (Nat × List Nat):=fun b=>if b=w.heap.size then some (τ,[]) else γ b
    have hsame:Same w w':=fun b hb=>Below.heap_alloc w.drew _ b hb
    have h2:∀ b,A b→w'.heap[b]?=w.heap[b]?:=fun b hb=>hsame b (g.hr.low b hb)
    have h5:∀ σ,σ ≠ τ→β' σ=β σ:=fun σ hσ=>by simp [β',hσ]
    have hnw:w'.heap[w.heap.size]?=some (.cells (old++news++rest) e (0,0)):=heap_new w.drew _
    have hγ:∀ b σ π,γ b=some (σ,π)→σ<s.N→s.M σ ≠ none→γ' b=some (σ,π):=by
      intro b σ π h1 h2 h3
      have:=(g.hr.own b σ π h1 h2 h3).1
      simp only [γ',if_neg (Nat.ne_of_lt this)];exact h1
    have hszA:(old++news++rest).size=cap * ob.sz:=by
      simp only [Array.size_append,hos,hns,r2]
      rw [← Nat.add_mul,← Nat.add_mul];congr 1;omega
    have htk:((ob.es.drop off).take n).length=n:=by rw [List.length_take,hdl];omega
    have hcells:=app_cells (w:=w) (A:=A) (β:=β) (γ:=γ) (τ:=τ) (N:=s.N) (fl:=ob.flat) (fy:=fy) (n:=n) (sz:=ob.sz) (old:=old) (news:=news) (rest:=rest) (es:=(ob.es.drop off).take n) (ys:=ys) hos hns htk
      (fun i j hi hj=>by
        have:((ob.es.drop off).take n).getD i []=ob.es.getD (off+i) []:=by
          rw [← gdr i];simp only [List.getD_eq_getElem?_getD,List.getElem?_take,if_pos hi]
        rw [this];exact hrow i j hi hj) hyr
    have hOR:OR w' A β' γ' s.N (appO τ n ⟨ob.sz,ob.es.drop off,ob.flat,ob.ow,ob.kd⟩ ys fy) τ:=by
      rw [appO_mapc]
      refine (nf_kill (β:=β) (β':=β') (N:=s.N) (fun σ _ h=>h5 σ h)).orOf (w:=w) (γ:=γ) (τ:=τ) (us:=fun i j=>(old++news++rest).getD (i * ob.sz+j) undef) (fun i hi=>pl (ob.es.drop off) n (by rw [hdl];omega) (fun i hi=>by rw [gdr];exact hor.1 _ (by rw [hdl] at hi;omega)) i hi)
        (fun hw i j hi hj=>po (ob.es.drop off) n (by rw [hdl];omega) (fun i j hi hj=>by rw [gdr];exact hno _ j (by rw [hdl] at hi;omega) hj) i j hi hj) (show β' τ=some w.heap.size by simp [β']) hnw ?_ (fun i j hi hj => ?_) h2 (fun _ h=>h) hsame.shp.f (fun b π _ hb=>⟨hsame b (g.hr.own b τ π hb hτ hMn).1,hγ b τ π hb hτ hMn⟩)
      · have:((ob.es.drop off).take n++ys).length * ob.sz≤(old++news++rest).size:=by
          rw [List.length_append,htk,hszA];exact Nat.mul_le_mul_right _ r1
        cases hq:ob.kd with
        | map k ka va=>rw [hq] at hka;cases hka
        | itr=>rw [hq] at hka;cases hka
        | arr=>exact ⟨_,_,rfl,this,fun _ _ _ _=>rfl⟩
        | fix=>exact ⟨_,_,rfl,this,fun _ _ _ _=>rfl⟩
      · simp only at hi hj ⊢
        exact hcells i j hi hj
    have g2:=g.regrow hτ hM hka (w':=w') (β':=β') (γ':=γ') (ob':=appO τ n ⟨ob.sz,ob.es.drop off,ob.flat,ob.ow,ob.kd⟩ ys fy)
      (g.hr.below.next ⟨rfl,rfl,rfl,by simp [w'],fun k hk=>hsame k hk⟩) h2 hsame.shp (fun b σ π h1 _ h2 h3=>hsame b (g.hr.own b σ π h1 h2 h3).1) h5 hγ
      (fun b σ π hb=>by
        simp only [γ'] at hb
        split at hb
        · next e=>simp only [Option.some.injEq,Prod.mk.injEq] at hb;right;subst e;exact ⟨hb.1.symm,by show w.heap.size<(w.heap.push _).size;rw [Array.size_push];omega,fun hA=>absurd (g.hr.low _ hA) (Nat.lt_irrefl _),.inl g.hr.below.size,fun o ho=>by rw [hnw] at ho;cases ho;rfl⟩
        · exact .inl hb)
      (fun b hb=>by
        have:b=w.heap.size:=by simp [β'] at hb;exact hb.symm
        subst this
        simp [γ']) hOR (by simp [w']) (Vis.of _ _ hsame)
    have hdr:=DR.ref (w:=w') (A:=A) (β:=β') (N:=s.N) τ ob.sz 0 (n+ys.length) cap w.heap.size _ _ hτ (by simp [β']) r1 hnw (by rw [hszA];simp)
    rw [Nat.zero_mul] at hdr
    exact Does.value r3 hk2 ⟨A,β',γ',g2.put hdr hd⟩
  cases ex with
  | cl d x h'=>cases h'
  | ref τ sz' off n c b arr T hN hb hc hh hr =>
    obtain ⟨arr',T',hh',hl,hro⟩:=g.hr.cells hN hM hkm hb
    rw [hh] at hh';cases hh'
    have hnz:(off+n) * ob.sz≤ob.es.length * ob.sz:=Nat.mul_le_mul_right _ hle
    have hadd:(off+n) * ob.sz=off * ob.sz+n * ob.sz:=Nat.add_mul ..
    obtain ⟨hbl,_⟩:=Array.getElem?_eq_some_iff.1 hh
    by_cases hroom:n+ys.length≤c
    · have hcz:(n+ys.length) * ob.sz≤c * ob.sz:=Nat.mul_le_mul_right _ hroom
      rw [Nat.add_mul] at hcz hr
      have hone:∀ u ∈ news.toList,u.oneCell'=true:=by
        intro u hu
        obtain ⟨m,hm,rfl⟩:=List.mem_iff_getElem.1 hu
        have hm':m<news.size:=by simpa using hm
        rw [hns] at hm'
        have hz:=h.s0
        have:=(hyr (m / ob.sz) (m % ob.sz) ((Nat.div_lt_iff_lt_mul hz).2 hm') (Nat.mod_lt _ hz)).2.2
        rw [show m / ob.sz * ob.sz+m % ob.sz=m by rw [Nat.mul_comm];exact Nat.div_add_mod m ob.sz] at this
        rw [← hns] at hm'
        simpa [hm'] using this
      have hrun:=run_room_off (w:=w) h hvx ev hnew hroom hh (by omega) hone
      rw [← hadd] at hrun
      have hfit:(off+n) * ob.sz+news.toList.length≤arr.size:=by rw [Array.length_toList,hns];omega
      let arr2:=(arr.toList.take ((off+n) * ob.sz)++news.toList++arr.toList.drop ((off+n) * ob.sz+news.toList.length)).toArray
      have hs2:arr2.size=arr.size:=wr_size arr _ _ hfit
      have hroot:=g.hr.root τ b hN hMn hb
      obtain ⟨_,hbA,hbO,_⟩:=g.hr.own b τ [] hroot hN hMn
      have h2:∀ q,A q→(w.setRow b arr2).heap[q]?=w.heap[q]?:=fun q hq=>setRow_other w b q arr2 (fun e=>hbA (e ▸ hq))
      have h3:Shp w (w.setRow b arr2):=Shp.setRow hh hs2
      have hnw:=setRow_heap w b arr arr2 T (0,0) hh
      have hoth:∀ q σ π,γ q=some (σ,π)→(σ ≠ τ∨π ≠ [])→(w.setRow b arr2).heap[q]?=w.heap[q]?:=by
        intro q σ π hq hne
        refine setRow_other w b q arr2 (fun e => ?_)
        rw [e,hroot] at hq
        simp only [Option.some.injEq,Prod.mk.injEq] at hq
        rcases hne with h|h
        · exact h hq.1.symm
        · exact h hq.2.symm
      have htk:(ob.es.take (off+n)).length=off+n:=by rw [List.length_take];omega
      have hcell:∀ i j,i<(ob.es.take (off+n)++ys).length→j<ob.sz→CDR (ob.flat && fy) w A β γ s.N τ [i * ob.sz+j] (((ob.es.take (off+n)++ys).getD i []).getD j .junk) (arr2.getD (i * ob.sz+j) undef):=by
        intro i j hi hj
        have hi':i<off+n+ys.length:=by rwa [List.length_append,htk] at hi
        rw [wr_get arr _ _ _ hfit,Array.length_toList,hns]
        by_cases h1:i<off+n
        · have e1:=in_row (sz:=ob.sz) h1 hj
          rw [if_neg (by omega)]
          have:(ob.es.take (off+n)++ys).getD i []=ob.es.getD i []:=(gtk _ _ i h1).resolve_right (by omega)
          rw [this]
          obtain ⟨q1,q2,q3⟩:=hro i j (by omega) hj
          exact ⟨q1,fun h=>q2 (h.imp (fun h=>by rw [Bool.and_eq_true] at h;exact h.1) id),q3⟩
        · obtain ⟨q,rfl⟩ : ∃ q,i=off+n+q:=⟨i - (off+n),by omega⟩
          have hq:q<ys.length:=by omega
          have e1:=in_row (sz:=ob.sz) hq hj
          have e2:(off+n+q) * ob.sz+j=(off+n) * ob.sz+(q * ob.sz+j):=by rw [Nat.add_mul];omega
          have:(ob.es.take (off+n)++ys).getD (off+n+q) []=ys.getD q []:=by
            simp only [List.getD_eq_getElem?_getD];rw [List.getElem?_append_right (by omega),htk,show off+n+q - (off+n)=q by omega]
          have e3:news.toList.getD ((off+n+q) * ob.sz+j - (off+n) * ob.sz) undef=news.getD (q * ob.sz+j) undef:=by
            rw [show (off+n+q) * ob.sz+j - (off+n) * ob.sz=q * ob.sz+j by omega];simp [List.getD,Array.getD_eq_getD_getElem?]
          rw [this,if_pos (by omega),e3]
          obtain ⟨q1,q2,q3⟩:=hyr q j hq hj
          refine ⟨fun _=>q1,fun h => ?_,q3⟩
          rcases h with h|h
          · rw [Bool.and_eq_true] at h;exact .cr _ _ _ (q2 h.2)
          · rw [dr_no q1] at h;cases h
      have hOR:OR (w.setRow b arr2) A β γ s.N (appO τ (off+n) ob ys fy) τ:=by
        rw [appO_mapc]
        refine (nf_kill (β:=β) (β':=β) (N:=s.N) (fun σ _ _=>rfl)).orOf (w:=w) (γ:=γ) (τ:=τ) (us:=fun i j=>arr2.getD (i * ob.sz+j) undef) (fun i hi=>pl ob.es (off+n) hle hor.1 i hi) (fun hw i j hi hj=>po ob.es (off+n) hle hno i j hi hj) hb hnw ?_ (fun i j hi hj => ?_) h2 (fun _ h=>h) h3.f (fun q π hp hq=>⟨hoth q τ π hq (.inr hp),hq⟩)
        · have:(ob.es.take (off+n)++ys).length * ob.sz≤arr2.size:=by
            rw [List.length_append,htk,hs2,Nat.add_mul];omega
          cases hq:ob.kd with
          | map k ka va=>rw [hq] at hka;cases hka
          | itr=>rw [hq] at hka;cases hka
          | arr=>exact ⟨_,_,rfl,this,fun _ _ _ _=>rfl⟩
          | fix=>exact ⟨_,_,rfl,this,fun _ _ _ _=>rfl⟩
        · simp only at hi hj ⊢
          exact hcell i j hi hj
      have g2:=g.regrow hN hM hka (w':=w.setRow b arr2) (β':=β) (γ':=γ) (ob':=appO τ (off+n) ob ys fy)
        (Bel.setRow g.hr.below hbO arr2 h3) h2 h3 (fun q σ π h1 hne _ _=>hoth q σ π h1 hne) (fun _ _=>rfl) (fun _ _ _ h _ _=>h) (fun _ _ _ h=>.inl h) (fun q hq=>g.hr.root τ q hN hMn hq) hOR (by simp) (Vis.cells hh hnw (fun q e=>setRow_other w b q arr2 e))
      have hdr:=DR.ref (w:=w.setRow b arr2) (A:=A) (β:=β) (N:=s.N) τ ob.sz off (n+ys.length) c b arr2 T hN hb hroom hnw (by rw [hs2,Nat.add_mul];exact hr)
      exact Does.value hrun hk1 ⟨A,β,γ,g2.put hdr hd⟩
    · rw [Nat.add_mul] at hr
      have hcn:n * ob.sz≤c * ob.sz:=Nat.mul_le_mul_right _ hc
      refine grow (old:=((List.range (n * ob.sz)).map fun m=>arr.getD (off * ob.sz+m) undef).toArray) rfl (fun w' hs => ?_) (by simp) (by omega) (fun i j hi hj => ?_)
      · refine run_loadCells (P:=P) w' ⟨b,off * ob.sz,none⟩ (n * ob.sz) (fun m=>arr.getD (off * ob.sz+m) undef) (fun m hm => ?_)
        rw [addr_add,hs.cell hbl]
        have hlt:off * ob.sz+m<arr.size:=by omega
        simp only [World.cell?,hh]
        simp [hlt]
      · have e1:=in_row (sz:=ob.sz) hi hj
        have:(((List.range (n * ob.sz)).map fun m=>arr.getD (off * ob.sz+m) undef).toArray).getD (i * ob.sz+j) undef=arr.getD ((off+i) * ob.sz+j) undef:=by
          rw [show (off+i) * ob.sz+j=off * ob.sz+(i * ob.sz+j) by rw [Nat.add_mul];omega]
          simp [e1]
        rw [this];exact cdr_path (hro (off+i) j (by omega) hj) (hno (off+i) j (by omega) hj)
  | refz τ sz' off bb hN =>
    by_cases h0:ys=[]
    · subst h0
      have hOR:OR w A β γ s.N (appO τ 0 ⟨ob.sz,ob.es.drop off,ob.flat,ob.ow,ob.kd⟩ [] fy) τ:=by
        rw [appO_mapc]
        rcases hor.2.2 with ⟨k1,k2,k3⟩|⟨b,oo,us,k1,k2,k3,k4⟩
        · refine ⟨fun i hi => ?_,fun _ i j hi => ?_,.inl ⟨k1,?_,by rw [mapc_kd];exact hka⟩⟩
          · rw [mapc_len] at hi;simp at hi
          · rw [mapc_len] at hi;simp at hi
          · exact List.eq_nil_of_length_eq_zero (by rw [mapc_len];simp)
        · refine (nf_kill (β:=β) (β':=β) (N:=s.N) (fun σ _ _=>rfl)).orOf (w:=w) (γ:=γ) (τ:=τ) (us:=us) (fun i hi=>by simp at hi) (fun _ i j hi=>by simp at hi) k1 k2 ?_ (fun i j hi=>by simp at hi) (fun _ _=>rfl) (fun _ h=>h) (Shp.refl _).f (fun q π hp hq=>⟨rfl,hq⟩)
          cases hq:ob.kd with
          | map k ka va=>rw [hq] at hka;cases hka
          | itr=>rw [hq] at hka;cases hka
          | arr=>rw [hq] at k3;obtain ⟨x1,x2,rfl,_⟩:=k3;exact ⟨x1,x2,rfl,by simp,fun i j hi=>by simp at hi⟩
          | fix=>rw [hq] at k3;obtain ⟨x1,x2,rfl,_⟩:=k3;exact ⟨x1,x2,rfl,by simp,fun i j hi=>by simp at hi⟩
      have g2:=g.regrow hN hM hka (w':=w) (β':=β) (γ':=γ) (ob':=appO τ 0 ⟨ob.sz,ob.es.drop off,ob.flat,ob.ow,ob.kd⟩ [] fy) g.hr.below (fun _ _=>rfl) (Shp.refl _) (fun _ _ _ _ _ _ _=>rfl) (fun _ _=>rfl) (fun _ _ _ h _ _=>h) (fun _ _ _ h=>.inl h) (fun q hq=>g.hr.root τ q hN hMn hq) hOR (Nat.le_refl _) (Vis.refl _)
      exact Does.value (run_none h hvx ev) hk2 ⟨A,β,γ,g2.put (.refz τ ob.sz 0 bb hN) hd⟩
    · have hpos:0<ys.length:=List.length_pos_iff.2 h0
      refine grow (old := #[]) rfl (fun w' _ => ?_) (by simp) (by omega) (fun i j hi=>by omega)
      cases bb<;>simp [Builtin.firstCells,loadCells,loadCellsFrom]
theorem ef_app {x y : Operand} {x' y' : O} {e : TypeId} {sz by_ : Nat} {K : S → Prop} (h : AppOp P o x y e sz by_) (hx : cO x = some x') (hy : cO y = some y') (hd : ∀ t, o.dst = some t → t < G.nt ∧ ∀ y, ¬ G.T t y)
    (hk:kApp s o.dst sz by_ K (s.g x') (s.src (s.g y'))) (g:GR G s a w A β γ):Does false P G a w o K:=by
  have ex:=g.evalO hx
  have ey:=g.evalO hy
  generalize hsrc:s.src (s.g y')=yy at hk
  obtain ⟨yd,fy⟩:=yy
  unfold kApp at hk
  simp only at hk
  split at hk
  · next z ys =>
    obtain ⟨yb,yc,news,ev,hns,hnew,hyl,hyr⟩:=src_rows (P:=P) g ey hsrc
    rw [ev] at hnew
    split at hk
    · -- onto nil
      next hn =>
      obtain ⟨⟨rfl,hbnd⟩,hk⟩:=hk
      rw [hn] at ex
      generalize hvx:a.eval x=vx at ex
      cases ex with
      | cl d x h' =>
        cases h'
        by_cases h0:ys=[]
        · subst h0
          exact Does.value (run_none h hvx ev) hk (newt_nil g hd)
        · have hpos:0<ys.length:=List.length_pos_iff.2 h0
          obtain ⟨cap,rest,r1,r2,r3⟩:=run_grow (w:=w) h hvx ev (old := #[]) (fun w' _=>by simp [Builtin.firstCells]) hnew (by omega) (by simpa using hbnd)
          rw [Nat.zero_add] at r1 r2 r3
          refine Does.value r3 hk (newt_rows g hd (w1:=w.drew) ⟨rfl,rfl,rfl,Nat.le_refl _,fun _ _=>rfl⟩ rfl (by simp [hns]) (fun i hi=>hyl i hi) (fun i j hi hj => ?_) (fun β' eb => ?_))
          · dsimp only at hi hj ⊢
            obtain ⟨q1,q2,q3⟩:=hyr i j hi hj
            have e1:(#[]++news++rest).getD (i * z+j) undef=news.getD (i * z+j) undef:=by
              have:=in_row hi hj
              simp only [Array.getD_eq_getD_getElem?];rw [Array.getElem?_append_left (by simp;omega)];simp
            rw [e1]
            exact ⟨q1.mono (fun _ _=>rfl) (fun _ h=>h) (fun b arr T e=>⟨arr,e,rfl⟩) (Nat.le_refl _) (fun _ _=>rfl),fun hf=>(q2 hf).mono (fun _ _=>rfl) (fun _ h=>h),q3⟩
          · have hsz:(#[]++news++rest).size=cap * z:=by
              simp [hns,r2]
              rw [← Nat.add_mul];congr 1;omega
            have:=DR.ref (w:=w.drew.alloc (.cells (#[]++news++rest) e)) (A:=A) s.N z 0 ys.length cap w.heap.size _ _ (Nat.lt_succ_self _) eb r1 (heap_new _ _) (by rw [hsz];simp)
            simpa using this
    · -- onto an owned row
      next τ z off n hn =>
      unfold kM at hk
      split at hk
      · next ob hM =>
        unfold kAppO at hk
        split at hk
        rotate_left
        · obtain ⟨⟨rfl,rfl,hobs,hle,hka,how,hbnd⟩,hk1,hk2⟩:=hk
          rw [hn] at ex
          exact app_off h hd ex hM ev hns hnew hyl hyr hobs hle hka how hbnd hk1 hk2 g
        obtain ⟨⟨rfl,rfl,hobs,_,hle,hka,hbnd⟩,hk⟩:=hk
        have hMn:s.M τ ≠ none:=by rw [hM];simp
        have hkm:ob.kd.isMap=false:=by cases hq:ob.kd<;>first|rfl|(rw [hq] at hka;cases hka)
        rw [hn] at ex
        generalize hvx:a.eval x=vx at ex
        have hτ:τ<s.N:=by
          cases ex with
          | cl d x h'=>cases h'
          | ref=>assumption
          | refz=>assumption
        have hor:=g.hr.objs τ ob hτ hM
        have htk:(ob.es.take n).length=n:=by rw [List.length_take];omega
        have hpl:∀ i,i<(ob.es.take n++ys).length→((ob.es.take n++ys).getD i []).length=z:=by
          intro i hi
          rw [List.length_append,htk] at hi
          by_cases h1:i<n
          · have:(ob.es.take n++ys).getD i []=ob.es.getD i []:=by
              simp only [List.getD_eq_getElem?_getD];rw [List.getElem?_append_left (by omega),List.getElem?_take,if_pos h1]
            rw [this,hor.1 i (by omega),hobs]
          · have:(ob.es.take n++ys).getD i []=ys.getD (i - n) []:=by
              simp only [List.getD_eq_getElem?_getD];rw [List.getElem?_append_right (by omega),htk]
            rw [this];exact hyl _ (by omega)
        have hpo:ob.ow=false→∀ i j,i<(ob.es.take n++ys).length→j<z→(((ob.es.take n++ys).getD i []).getD j .junk).isOwn=false:=by
          intro hw i j hi hj
          rw [List.length_append,htk] at hi
          by_cases h1:i<n
          · have:(ob.es.take n++ys).getD i []=ob.es.getD i []:=by
              simp only [List.getD_eq_getElem?_getD];rw [List.getElem?_append_left (by omega),List.getElem?_take,if_pos h1]
            rw [this];exact hor.2.1 hw i j (by omega) (by rw [hobs];exact hj)
          · have:(ob.es.take n++ys).getD i []=ys.getD (i - n) []:=by
              simp only [List.getD_eq_getElem?_getD];rw [List.getElem?_append_right (by omega),htk]
            rw [this];exact dr_no (hyr (i - n) j (by omega) hj).1
        have tk:∀ i,i<n→(ob.es.take n).getD i []=ob.es.getD i []:=by
          intro i hi
          simp only [List.getD_eq_getElem?_getD,List.getElem?_take,if_pos hi]
        -- what a grown row is good for
        have grow:∀ {base:Option Addr} {c:Nat} {old:Array Value},a.eval x=.slice base n c→(∀ w',Same w w'→(Builtin.firstCells z n (.slice base n c)).run P w'=.ok old w')→old.size=n * z→c<n+ys.length →
            (∀ i j,i<n→j<z→CDR ob.flat w A β γ s.N τ [i * z+j] ((ob.es.getD i []).getD j .junk) (old.getD (i * z+j) undef))→Does false P G a w o K:=by
          intro base c old hxx hold hos hcap hrow
          obtain ⟨cap,rest,r1,r2,r3⟩:=run_grow (w:=w) h hxx ev hold hnew hcap hbnd
          let w':=w.drew.alloc (.cells (old++news++rest) e)
          let β':Nat→Option Nat:=fun σ=>if σ=τ then some w.heap.size else β σ
          let γ':Nat→Option (Nat × List Nat):=fun b=>if b=w.heap.size then some (τ,[]) else γ b
          have hsame:Same w w':=fun b hb=>Below.heap_alloc w.drew _ b hb
          have h2:∀ b,A b→w'.heap[b]?=w.heap[b]?:=fun b hb=>hsame b (g.hr.low b hb)
          have h5:∀ σ,σ ≠ τ→β' σ=β σ:=fun σ hσ=>by simp [β',hσ]
          have hnw:w'.heap[w.heap.size]?=some (.cells (old++news++rest) e (0,0)):=heap_new w.drew _
          have hγ:∀ b σ π,γ b=some (σ,π)→σ<s.N→s.M σ ≠ none→γ' b=some (σ,π):=by
            intro b σ π h1 h2 h3
            have:=(g.hr.own b σ π h1 h2 h3).1
            simp only [γ',if_neg (Nat.ne_of_lt this)];exact h1
          have hszA:(old++news++rest).size=cap * z:=by
            simp only [Array.size_append,hos,hns,r2]
            rw [← Nat.add_mul,← Nat.add_mul];congr 1;omega
          have hcells:=app_cells (w:=w) (A:=A) (β:=β) (γ:=γ) (τ:=τ) (N:=s.N) (fl:=ob.flat) (fy:=fy) (n:=n) (sz:=z) (old:=old) (news:=news) (rest:=rest) (es:=ob.es.take n) (ys:=ys) hos hns htk
            (fun i j hi hj=>by rw [tk i hi];exact hrow i j hi hj) hyr
          have hOR:OR w' A β' γ' s.N (appO τ n ob ys fy) τ:=by
            rw [appO_mapc]
            refine (nf_kill (β:=β) (β':=β') (N:=s.N) (fun σ _ h=>h5 σ h)).orOf (w:=w) (γ:=γ) (τ:=τ) (us:=fun i j=>(old++news++rest).getD (i * ob.sz+j) undef) (fun i hi=>by rw [hobs];exact hpl i hi) (fun hw i j hi hj=>hpo hw i j hi (by rw [← hobs];exact hj)) (show β' τ=some w.heap.size by simp [β']) hnw ?_ (fun i j hi hj => ?_) h2 (fun _ h=>h) hsame.shp.f (fun b π _ hb=>⟨hsame b (g.hr.own b τ π hb hτ hMn).1,hγ b τ π hb hτ hMn⟩)
            · have:(ob.es.take n++ys).length * ob.sz≤(old++news++rest).size:=by
                rw [hobs,List.length_append,htk,hszA];exact Nat.mul_le_mul_right _ r1
              cases hq:ob.kd with
              | map k ka va=>rw [hq] at hka;cases hka
              | itr=>rw [hq] at hka;cases hka
              | arr=>exact ⟨_,_,rfl,this,fun _ _ _ _=>rfl⟩
              | fix=>exact ⟨_,_,rfl,this,fun _ _ _ _=>rfl⟩
            · simp only at hi hj ⊢
              rw [hobs] at hj ⊢
              exact hcells i j hi hj
          have g2:=g.regrow hτ hM hka (w':=w') (β':=β') (γ':=γ') (ob':=appO τ n ob ys fy)
            (g.hr.below.next ⟨rfl,rfl,rfl,by simp [w'],fun k hk=>hsame k hk⟩) h2 hsame.shp (fun b σ π h1 _ h2 h3=>hsame b (g.hr.own b σ π h1 h2 h3).1) h5 hγ
            (fun b σ π hb=>by
              simp only [γ'] at hb
              split at hb
              · next e=>simp only [Option.some.injEq,Prod.mk.injEq] at hb;right;subst e;exact ⟨hb.1.symm,by show w.heap.size<(w.heap.push _).size;rw [Array.size_push];omega,fun hA=>absurd (g.hr.low _ hA) (Nat.lt_irrefl _),.inl g.hr.below.size,fun o ho=>by rw [hnw] at ho;cases ho;rfl⟩
              · exact .inl hb)
            (fun b hb=>by
              have:b=w.heap.size:=by simp [β'] at hb;exact hb.symm
              subst this
              simp [γ']) hOR (by simp [w']) (Vis.of _ _ hsame)
          have hdr:=DR.ref (w:=w') (A:=A) (β:=β') (N:=s.N) τ z 0 (n+ys.length) cap w.heap.size _ _ hτ (by simp [β']) r1 hnw (by rw [hszA];simp)
          rw [Nat.zero_mul] at hdr
          exact Does.value r3 hk ⟨A,β',γ',g2.put hdr hd⟩
        cases ex with
        | cl d x h'=>cases h'
        | ref τ sz' off n c b arr T hN hb hc hh hr =>
          rw [Nat.zero_mul] at hvx
          rw [Nat.zero_add] at hr
          obtain ⟨arr',T',hh',hl,hro⟩:=g.hr.cells hN hM hkm hb
          rw [hh] at hh';cases hh'
          rw [hobs] at hl hro
          have hnz:n * z≤ob.es.length * z:=Nat.mul_le_mul_right _ hle
          obtain ⟨hbl,_⟩:=Array.getElem?_eq_some_iff.1 hh
          by_cases hroom:n+ys.length≤c
          · have hcz:(n+ys.length) * z≤c * z:=Nat.mul_le_mul_right _ hroom
            rw [Nat.add_mul] at hcz
            have hone:∀ u ∈ news.toList,u.oneCell'=true:=by
              intro u hu
              obtain ⟨m,hm,rfl⟩:=List.mem_iff_getElem.1 hu
              have hm':m<news.size:=by simpa using hm
              rw [hns] at hm'
              have hz:=h.s0
              have:=(hyr (m / z) (m % z) ((Nat.div_lt_iff_lt_mul hz).2 hm') (Nat.mod_lt _ hz)).2.2
              rw [show m / z * z+m % z=m by rw [Nat.mul_comm];exact Nat.div_add_mod m z] at this
              rw [← hns] at hm'
              simpa [hm'] using this
            have hrun:=run_room (w:=w) h hvx ev hnew hroom hh (by omega) hone
            have hfit:n * z+news.toList.length≤arr.size:=by rw [Array.length_toList,hns];omega
            let arr2:=(arr.toList.take (n * z)++news.toList++arr.toList.drop (n * z+news.toList.length)).toArray
            have hs2:arr2.size=arr.size:=wr_size arr _ _ hfit
            have hroot:=g.hr.root τ b hN hMn hb
            obtain ⟨_,hbA,hbO,_⟩:=g.hr.own b τ [] hroot hN hMn
            have h2:∀ q,A q→(w.setRow b arr2).heap[q]?=w.heap[q]?:=fun q hq=>setRow_other w b q arr2 (fun e=>hbA (e ▸ hq))
            have h3:Shp w (w.setRow b arr2):=Shp.setRow hh hs2
            have hnw:=setRow_heap w b arr arr2 T (0,0) hh
            have hoth:∀ q σ π,γ q=some (σ,π)→(σ ≠ τ∨π ≠ [])→(w.setRow b arr2).heap[q]?=w.heap[q]?:=by
              intro q σ π hq hne
              refine setRow_other w b q arr2 (fun e => ?_)
              rw [e,hroot] at hq
              simp only [Option.some.injEq,Prod.mk.injEq] at hq
              rcases hne with h|h
              · exact h hq.1.symm
              · exact h hq.2.symm
            have hcell:∀ i j,i<(ob.es.take n++ys).length→j<z→CDR (ob.flat && fy) w A β γ s.N τ [i * z+j] (((ob.es.take n++ys).getD i []).getD j .junk) (arr2.getD (i * z+j) undef):=by
              intro i j hi hj
              have hi':i<n+ys.length:=by rwa [List.length_append,htk] at hi
              rw [wr_get arr _ _ _ hfit,Array.length_toList,hns]
              by_cases h1:i<n
              · have e1:=in_row (sz:=z) h1 hj
                rw [if_neg (by omega)]
                have:(ob.es.take n++ys).getD i []=ob.es.getD i []:=by
                  simp only [List.getD_eq_getElem?_getD];rw [List.getElem?_append_left (by omega),List.getElem?_take,if_pos h1]
                rw [this]
                obtain ⟨q1,q2,q3⟩:=hro i j (by omega) hj
                exact ⟨q1,fun h=>q2 (h.imp (fun h=>by rw [Bool.and_eq_true] at h;exact h.1) id),q3⟩
              · obtain ⟨q,rfl⟩ : ∃ q,i=n+q:=⟨i - n,by omega⟩
                have hq:q<ys.length:=by omega
                have e1:=in_row (sz:=z) hq hj
                have e2:(n+q) * z+j=n * z+(q * z+j):=by rw [Nat.add_mul];omega
                have:(ob.es.take n++ys).getD (n+q) []=ys.getD q []:=by
                  simp only [List.getD_eq_getElem?_getD];rw [List.getElem?_append_right (by omega),htk,show n+q - n=q by omega]
                have e3:news.toList.getD ((n+q) * z+j - n * z) undef=news.getD (q * z+j) undef:=by
                  rw [show (n+q) * z+j - n * z=q * z+j by omega];simp [List.getD,Array.getD_eq_getD_getElem?]
                rw [this,if_pos (by omega),e3]
                obtain ⟨q1,q2,q3⟩:=hyr q j hq hj
                refine ⟨fun _=>q1,fun h => ?_,q3⟩
                rcases h with h|h
                · rw [Bool.and_eq_true] at h;exact .cr _ _ _ (q2 h.2)
                · rw [dr_no q1] at h;cases h
            have hOR:OR (w.setRow b arr2) A β γ s.N (appO τ n ob ys fy) τ:=by
              rw [appO_mapc]
              refine (nf_kill (β:=β) (β':=β) (N:=s.N) (fun σ _ _=>rfl)).orOf (w:=w) (γ:=γ) (τ:=τ) (us:=fun i j=>arr2.getD (i * ob.sz+j) undef) (fun i hi=>by rw [hobs];exact hpl i hi) (fun hw i j hi hj=>hpo hw i j hi (by rw [← hobs];exact hj)) hb hnw ?_ (fun i j hi hj => ?_) h2 (fun _ h=>h) h3.f (fun q π hp hq=>⟨hoth q τ π hq (.inr hp),hq⟩)
              · have:(ob.es.take n++ys).length * ob.sz≤arr2.size:=by
                  rw [hobs,List.length_append,htk,hs2,Nat.add_mul];omega
                cases hq:ob.kd with
                | map k ka va=>rw [hq] at hka;cases hka
                | itr=>rw [hq] at hka;cases hka
                | arr=>exact ⟨_,_,rfl,this,fun _ _ _ _=>rfl⟩
                | fix=>exact ⟨_,_,rfl,this,fun _ _ _ _=>rfl⟩
              · simp only at hi hj ⊢
                rw [hobs] at hj ⊢
                exact hcell i j hi hj
            have g2:=g.regrow hN hM hka (w':=w.setRow b arr2) (β':=β) (γ':=γ) (ob':=appO τ n ob ys fy)
              (Bel.setRow g.hr.below hbO arr2 h3) h2 h3 (fun q σ π h1 hne _ _=>hoth q σ π h1 hne) (fun _ _=>rfl) (fun _ _ _ h _ _=>h) (fun _ _ _ h=>.inl h) (fun q hq=>g.hr.root τ q hN hMn hq) hOR (by simp) (Vis.cells hh hnw (fun q e=>setRow_other w b q arr2 e))
            have hdr:=DR.ref (w:=w.setRow b arr2) (A:=A) (β:=β) (N:=s.N) τ z 0 (n+ys.length) c b arr2 T hN hb hroom hnw (by rw [Nat.zero_add,hs2];exact hr)
            rw [Nat.zero_mul] at hdr
            exact Does.value hrun hk ⟨A,β,γ,g2.put hdr hd⟩
          · refine grow (old:=((List.range (n * z)).map fun m=>arr.getD m undef).toArray) hvx (fun w' hs => ?_) (by simp) (by omega) (fun i j hi hj => ?_)
            · refine run_loadCells (P:=P) w' ⟨b,0,none⟩ (n * z) (fun m=>arr.getD m undef) (fun m hm => ?_)
              rw [addr_add,Nat.zero_add,hs.cell hbl]
              have hlt:m<arr.size:=by omega
              simp only [World.cell?,hh]
              simp [hlt]
            · have e1:=in_row (sz:=z) hi hj
              have:(((List.range (n * z)).map fun m=>arr.getD m undef).toArray).getD (i * z+j) undef=arr.getD (i * z+j) undef:=by simp [e1]
              rw [this];exact hro i j (by omega) hj
        | refz τ sz' off bb hN =>
          by_cases h0:ys=[]
          · subst h0
            have e0:ob.es.take 0++([]:List (List D))=[]:=by simp
            have hOR:OR w A β γ s.N (appO τ 0 ob [] fy) τ:=by
              rw [appO_mapc]
              rcases hor.2.2 with ⟨k1,k2,k3⟩|⟨b,oo,us,k1,k2,k3,k4⟩
              · refine ⟨fun i hi => ?_,fun _ i j hi => ?_,.inl ⟨k1,?_,by rw [mapc_kd];exact hka⟩⟩
                · rw [mapc_len] at hi;simp at hi
                · rw [mapc_len] at hi;simp at hi
                · exact List.eq_nil_of_length_eq_zero (by rw [mapc_len];simp)
              · refine (nf_kill (β:=β) (β':=β) (N:=s.N) (fun σ _ _=>rfl)).orOf (w:=w) (γ:=γ) (τ:=τ) (us:=us) (fun i hi=>by simp at hi) (fun _ i j hi=>by simp at hi) k1 k2 ?_ (fun i j hi=>by simp at hi) (fun _ _=>rfl) (fun _ h=>h) (Shp.refl _).f (fun q π hp hq=>⟨rfl,hq⟩)
                cases hq:ob.kd with
                | map k ka va=>rw [hq] at hka;cases hka
                | itr=>rw [hq] at hka;cases hka
                | arr=>rw [hq] at k3;obtain ⟨x1,x2,rfl,_⟩:=k3;exact ⟨x1,x2,rfl,by simp,fun i j hi=>by simp at hi⟩
                | fix=>rw [hq] at k3;obtain ⟨x1,x2,rfl,_⟩:=k3;exact ⟨x1,x2,rfl,by simp,fun i j hi=>by simp at hi⟩
            have g2:=g.regrow hN hM hka (w':=w) (β':=β) (γ':=γ) (ob':=appO τ 0 ob [] fy) g.hr.below (fun _ _=>rfl) (Shp.refl _) (fun _ _ _ _ _ _ _=>rfl) (fun _ _=>rfl) (fun _ _ _ h _ _=>h) (fun _ _ _ h=>.inl h) (fun q hq=>g.hr.root τ q hN hMn hq) hOR (Nat.le_refl _) (Vis.refl _)
            exact Does.value (run_none h hvx ev) hk ⟨A,β,γ,g2.put (.refz τ z 0 bb hN) hd⟩
          · have hpos:0<ys.length:=List.length_pos_iff.2 h0
            refine grow (old := #[]) hvx (fun w' _ => ?_) (by simp) (by omega) (fun i j hi=>by omega)
            cases bb<;>simp [Builtin.firstCells,loadCells,loadCellsFrom]
      · exact hk.elim
    · exact hk.elim
  · -- nothing is appended
    next =>
    have hyn:a.eval y=.slice none 0 0:=by
      generalize hvy:a.eval y=vy at ey
      cases hh:s.g y' with
      | nl=>rw [hh] at ey;cases ey with|cl d x h'=>cases h';rfl
      | v|sl|ip|junk|ag|ptr|tu|clo|mp|own|omp=>rw [hh] at hsrc;simp [S.src] at hsrc
      | ref τ sz off n =>
        rw [hh] at hsrc;simp only [S.src,srcO] at hsrc
        split at hsrc
        · split at hsrc<;>simp at hsrc
        · simp at hsrc
    obtain ⟨t,u,e2,ho,ht,hu⟩:=h.ex
    have rest:∀ (d:D) (bb:Option Addr) (n c:Nat),n≤c→a.eval x=.slice bb n c→DR w A β s.N d (.slice bb n c)→K (s.put o.dst d)→Does false P G a w o K:=by
      intro d bb n c hc hvx hdr hk
      refine Does.value (v:=.slice bb n c) (w':=w) ?_ hk ⟨A,β,γ,g.put hdr hd⟩
      cases bb<;>simp [execOp,ho,resolve,invoke,builtin,Builtin.append_,hvx,hyn,und_run ht,und_run hu,szOf_spec h.hs,Builtin.lenOf,Builtin.firstCells,storeCells,hc]
    generalize hvx:a.eval x=vx at ex
    split at hk
    · next hn =>
      rw [hn] at ex
      cases ex with
      | cl d x h'=>cases h';exact rest _ _ _ _ (Nat.le_refl _) hvx (.cl _ _ .nl) hk
    · next τ zx off n hn =>
      rw [hn] at ex
      cases ex with
      | cl d x h'=>cases h'
      | ref τ sz' off n c b arr T hN hb hc hh hr=>exact rest _ _ _ _ hc hvx (.ref _ _ _ _ _ _ _ _ hN hb hc hh hr) hk
      | refz τ sz' off bb hN=>exact rest _ _ _ _ (Nat.le_refl _) hvx (.refz _ _ _ _ hN) hk
    · exact hk.elim
  · exact hk.elim
end
end Go.Dm
