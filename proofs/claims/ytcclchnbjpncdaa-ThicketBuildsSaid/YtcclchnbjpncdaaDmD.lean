/-
  A logic for Go functions over plain data,part D: lists of plain data as descriptions,and the laws by which conditions are evaluated.
-/
import Derived.Test.YtcclchnbjpncdaaMg9
set_option linter.unusedSimpArgs false
set_option linter.unusedVariables false
set_option linter.unnecessarySimpa false
set_option linter.defProp false
namespace Go.Dm
abbrev iv (k:IntKind) (n:Int):D:=.v (.int k n)
def u8s (l:List UInt8):List (List D):=l.map fun b=>[.v (.int .u8 (b.toNat:Int))]
def i64s (l:List Int):List (List D):=l.map fun n=>[.v (.int .i64 n)]
def bls (l:List Bool):List (List D):=l.map fun b=>[.v (.bool b)]
def rows {α:Type} (f:α→List (List D)) (l:List α):List (List D):=l.map fun x=>[.sl 1 (f x)]
theorem u8s_len {l:List UInt8}:(u8s l).length=l.length:=by simp [u8s]
theorem i64s_len {l:List Int}:(i64s l).length=l.length:=by simp [i64s]
theorem bls_len {l:List Bool}:(bls l).length=l.length:=by simp [bls]
theorem rows_len {α:Type} {f:α→List (List D)} {l:List α}:(rows f l).length=l.length:=by simp [rows]
theorem map_getD {α β:Type} (f:α→β) (l:List α) (i:Nat) (x:β) (y:α) (h:i<l.length):(l.map f).getD i x=f (l.getD i y):=by
  simp [List.getD,h]
theorem u8s_get {l:List UInt8} {i:Nat} (h:i<l.length):(u8s l).getD i []=[.v (.int .u8 ((l.getD i 0).toNat:Int))]:=map_getD _ l i [] 0 h
theorem i64s_get {l:List Int} {i:Nat} (h:i<l.length):(i64s l).getD i []=[.v (.int .i64 (l.getD i 0))]:=map_getD _ l i [] 0 h
theorem bls_get {l:List Bool} {i:Nat} (h:i<l.length):(bls l).getD i []=[.v (.bool (l.getD i false))]:=map_getD _ l i [] false h
theorem rows_get {α:Type} [Inhabited α] {f:α→List (List D)} {l:List α} {i:Nat} (h:i<l.length):(rows f l).getD i []=[.sl 1 (f (l.getD i default))]:=map_getD _ l i [] default h
theorem i64s_set {l:List Int} {i:Nat} {n:Int}:(i64s l).set i [.v (.int .i64 n)]=i64s (l.set i n):=by simp [i64s,List.map_set]
theorem bls_set {l:List Bool} {i:Nat} {b:Bool}:(bls l).set i [.v (.bool b)]=bls (l.set i b):=by simp [bls,List.map_set]
theorem i64s_rep {n:Nat} {x:Int}:List.replicate n [D.v (.int .i64 x)]=i64s (List.replicate n x):=by simp [i64s]
theorem bls_rep {n:Nat} {x:Bool}:List.replicate n [D.v (.bool x)]=bls (List.replicate n x):=by simp [bls]
theorem i64s_app {l:List Int} {n:Int}:i64s l++[[D.v (.int .i64 n)]]=i64s (l++[n]):=by simp [i64s]
theorem u8s_app {l l':List UInt8}:u8s l++u8s l'=u8s (l++l'):=by simp [u8s]
theorem i64s_app2 {l l':List Int}:i64s l++i64s l'=i64s (l++l'):=by simp [i64s]
theorem bls_app {l l':List Bool}:bls l++bls l'=bls (l++l'):=by simp [bls]
theorem u8s_take {l:List UInt8} {n:Nat}:(u8s l).take n=u8s (l.take n):=by simp [u8s,List.map_take]
theorem i64s_take {l:List Int} {n:Nat}:(i64s l).take n=i64s (l.take n):=by simp [i64s,List.map_take]
theorem bls_take {l:List Bool} {n:Nat}:(bls l).take n=bls (l.take n):=by simp [bls,List.map_take]
theorem u8s_drop {l:List UInt8} {n:Nat}:(u8s l).drop n=u8s (l.drop n):=by simp [u8s,List.map_drop]
theorem i64s_drop {l:List Int} {n:Nat}:(i64s l).drop n=i64s (l.drop n):=by simp [i64s,List.map_drop]
theorem bls_drop {l:List Bool} {n:Nat}:(bls l).drop n=bls (l.drop n):=by simp [bls,List.map_drop]
theorem wrap64_id {n:Int} (h : -9223372036854775808≤n∧n≤9223372036854775807):IntKind.i64.wrap n=n:=IntWalk.i64_in _ h
theorem wrapu8_id {n:Int} (h:0≤n∧n≤255):IntKind.u8.wrap n=n:=by simp [IntKind.wrap,IntKind.bits,IntKind.signed];omega
theorem wrapu32_id {n:Int} (h:0≤n∧n≤4294967295):IntKind.u32.wrap n=n:=by simp [IntKind.wrap,IntKind.bits,IntKind.signed];omega
theorem wrapu64_id {n:Int} (h:0≤n∧n≤18446744073709551615):IntKind.u64.wrap n=n:=by simp [IntKind.wrap,IntKind.bits,IntKind.signed];omega
theorem wrapi32_id {n:Int} (h : -2147483648≤n∧n≤2147483647):IntKind.i32.wrap n=n:=by simp [IntKind.wrap,IntKind.bits,IntKind.signed];omega
theorem ChkD_true {α:Type} {k:α→Prop} {x:α}:ChkD True x k=k x:=by simp [ChkD]
theorem Chk_true {α:Type} {f:α→Prop} {x:α}:Chk True f x=f x:=by simp [Chk]
theorem tmod_nn {a b:Int} (h:0≤a):a.tmod b=a % b:=Int.tmod_eq_emod_of_nonneg h
theorem tdiv_nn {a b:Int} (h:0≤a):a.tdiv b=a / b:=Int.tdiv_eq_ediv_of_nonneg h
section
variable {s:S} {d τ t n N:Nat} {x:D} {ob:Ob} {mk:Nat→D}
theorem g_t:s.g (.t n)=s.ρ n:=(rfl)
theorem g_k {x:Value}:s.g (.k x)=.v x:=(rfl)
theorem g_nl:s.g .nl=.nl:=(rfl)
theorem g_f {f:FuncId}:s.g (.f f)=.clo f []:=(rfl)
theorem put_ρ:(s.put (some d) x).ρ t=if t=d then x else s.ρ t:=(rfl)
theorem put_M:(s.put (some d) x).M t=s.M t:=(rfl)
theorem put_N:(s.put (some d) x).N=s.N:=(rfl)
theorem put_none:s.put none x=s:=(rfl)
theorem setM_ρ:(s.setM τ ob).ρ t=s.ρ t:=(rfl)
theorem setM_M:(s.setM τ ob).M t=if t=τ then some ob else s.M t:=(rfl)
theorem setM_N:(s.setM τ ob).N=s.N:=(rfl)
theorem setN_ρ:(s.setN N).ρ t=s.ρ t:=(rfl)
theorem setN_M:(s.setN N).M t=s.M t:=(rfl)
theorem setN_N:(s.setN N).N=N:=(rfl)
theorem kill_ρ:(s.kill τ).ρ t=(s.ρ t).kill τ:=(rfl)
theorem kill_M:(s.kill τ).M t=(s.M t).map (Ob.mapc (D.kill τ)):=(rfl)
theorem kill_N:(s.kill τ).N=s.N:=(rfl)
theorem trim_ρ:(s.trim n).ρ t=(s.ρ t).trim n:=(rfl)
theorem trim_M:(s.trim n).M t=if t<n then (s.M t).map (Ob.mapc (D.trim n)) else none:=(rfl)
theorem trim_N:(s.trim n).N=n:=(rfl)
theorem head_ρ {asg:List Nat} {ups:List (Nat × D)} {ms:List (Nat × Ob)}:(s.head asg ups ms).ρ t=headD (look t ups) (asg.contains t) s t:=(rfl)
theorem headD_some {d:D} {c:Bool}:headD (some d) c s t=d:=(rfl)
theorem headD_t:headD none true s t=.junk:=(rfl)
theorem headD_f:headD none false s t=(s.ρ t).keep s:=(rfl)
theorem head_M {asg:List Nat} {ups:List (Nat × D)} {ms:List (Nat × Ob)}:(s.head asg ups ms).M t=look t ms:=(rfl)
theorem rnd_ρ {us:List (Nat × D)} {ms:List (Nat × Ob)}:(s.rnd us ms).ρ t=headD (look t us) false s t:=(rfl)
theorem rnd_M {us:List (Nat × D)} {ms:List (Nat × Ob)}:(s.rnd us ms).M t=look t ms:=(rfl)
theorem rnd_N {us:List (Nat × D)} {ms:List (Nat × Ob)}:(s.rnd us ms).N=s.N:=(rfl)
theorem jmp_ρ {s2:S} {L:List Nat}:(s.jmp s2 L).ρ t=jmpD (L.contains t) s s2 t:=(rfl)
theorem jmpD_t {s2:S}:jmpD true s s2 t=(s.ρ t).keep s:=(rfl)
theorem jmpD_f {s2:S}:jmpD false s s2 t=s2.ρ t:=(rfl)
theorem jmp_M {s2:S} {L:List Nat}:(s.jmp s2 L).M t=s2.M t:=(rfl)
theorem jmp_N {s2:S} {L:List Nat}:(s.jmp s2 L).N=s2.N:=(rfl)
theorem putL_nil {ds:List D}:s.putL [] ds=s:=by cases ds<;>rfl
theorem putL_cons {p:Nat} {ps:List Nat} {d:D} {ds:List D}:s.putL (p::ps) (d::ds)=(s.put (some p) d).putL ps ds:=(rfl)
theorem head_N {asg:List Nat} {ups:List (Nat × D)} {ms:List (Nat × Ob)}:(s.head asg ups ms).N=s.N:=(rfl)
theorem init_ρ {ds:List D}:(S.init ds).ρ t=ds.getD t .junk:=(rfl)
theorem init_M {ds:List D}:(S.init ds).M t=none:=(rfl)
theorem init_N {ds:List D}:(S.init ds).N=0:=(rfl)
theorem initH_ρ {ds:List D} {obs:List Ob}:(S.initH ds obs).ρ t=ds.getD t .junk:=(rfl)
theorem initH_M {ds:List D} {obs:List Ob}:(S.initH ds obs).M t=mAll obs t:=(rfl)
theorem initH_N {ds:List D} {obs:List Ob}:(S.initH ds obs).N=obs.length:=(rfl)
theorem unfoldM_ρ {i o:Nat} {kd:Kd} {sz:Nat} {es:List (List D)}:(s.unfoldM τ i o ob kd sz es).ρ t=s.ρ t:=(rfl)
theorem unfoldM_M {i o:Nat} {kd:Kd} {sz:Nat} {es:List (List D)}:(s.unfoldM τ i o ob kd sz es).M t=if t=s.N then some ⟨sz,es,true,false,kd⟩ else if t=τ then some ⟨ob.sz,ob.es.set i ((ob.es.getD i []).set o (.mp s.N)),false,ob.ow,ob.kd⟩ else s.M t:=(rfl)
theorem unfoldM_N {i o:Nat} {kd:Kd} {sz:Nat} {es:List (List D)}:(s.unfoldM τ i o ob kd sz es).N=s.N+1:=(rfl)
theorem unfold_ρ {i o:Nat} {ow:Bool} {sz:Nat} {es:List (List D)}:(s.unfold τ i o ob ow sz es).ρ t=s.ρ t:=(rfl)
theorem unfold_M {i o:Nat} {ow:Bool} {sz:Nat} {es:List (List D)}:(s.unfold τ i o ob ow sz es).M t=if t=s.N then some ⟨sz,es,true,ow,.arr⟩ else if t=τ then some ⟨ob.sz,ob.es.set i ((ob.es.getD i []).set o (.ref s.N sz 0 es.length)),false,ob.ow,ob.kd⟩ else s.M t:=(rfl)
theorem unfold_N {i o:Nat} {ow:Bool} {sz:Nat} {es:List (List D)}:(s.unfold τ i o ob ow sz es).N=s.N+1:=(rfl)
theorem frz_ρ:(s.frz τ ob).ρ t=(s.ρ t).frz τ ob:=(rfl)
theorem frz_M:(s.frz τ ob).M t=if t=τ then none else (s.M t).map (Ob.mapc (D.frz τ ob)):=(rfl)
theorem frz_N:(s.frz τ ob).N=s.N:=(rfl)
theorem swap_ρ {σ:Nat}:(s.swap σ τ).ρ t=(s.ρ t).ren (swp σ τ):=(rfl)
theorem swap_M {σ:Nat}:(s.swap σ τ).M t=(s.M (swp σ τ t)).map (Ob.ren (swp σ τ)):=(rfl)
theorem swap_N {σ:Nat}:(s.swap σ τ).N=s.N:=(rfl)
theorem fold_ρ {σ i o:Nat} {fl:Bool}:(s.fold σ τ i o fl ob x).ρ t=(s.ρ t).kill σ:=(rfl)
theorem fold_M {σ i o:Nat} {fl:Bool}:(s.fold σ τ i o fl ob x).M t=if t=σ then none else if t=τ then some ⟨ob.sz,foldRows σ i o fl ob x,fl,true,ob.kd⟩ else (s.M t).map (Ob.mapc (D.kill σ)):=(rfl)
theorem fold_N {σ i o:Nat} {fl:Bool}:(s.fold σ τ i o fl ob x).N=s.N:=(rfl)
end
theorem foldRows_t {σ i o z:Nat} {es:List (List D)} {f w:Bool} {kd:Kd} {x:D}:foldRows σ i o true ⟨z,es,f,w,kd⟩ x=es.set i ((es.getD i []).set o x):=(rfl)
theorem foldRows_f {σ i o z:Nat} {es:List (List D)} {f w:Bool} {kd:Kd} {x:D}:foldRows σ i o false ⟨z,es,f,w,kd⟩ x=(es.set i ((es.getD i []).set o x)).map fun e=>e.map (D.kill σ):=(rfl)
def D.lent (s:S) (ι:List Nat) (d:D):D:=d.lf (lentL s ι)
def afterM (s:S) (ι:List Nat) (l:List (Option Ob)) (τ:Nat) (x:Option Nat):Option Ob :=
  match x with
  | some k=>(mOf l k).map (Ob.ren (iotaO ι s.N))
  | none=>if s.N≤τ then (mOf l (τ - s.N+ι.length)).map (Ob.ren (iotaO ι s.N)) else (s.M τ).map (Ob.mapc (D.lent s ι))
theorem after_ρ {s:S} {ι:List Nat} {l:List (Option Ob)} {t:Nat}:(s.after ι l).ρ t=(s.ρ t).lent s ι:=(rfl)
theorem after_M {s:S} {ι:List Nat} {l:List (Option Ob)} {t:Nat}:(s.after ι l).M t=afterM s ι l t (posn t ι):=(rfl)
theorem after_N {s:S} {ι:List Nat} {l:List (Option Ob)}:(s.after ι l).N=s.N+(l.length - ι.length):=(rfl)
theorem afterM_some {s:S} {ι:List Nat} {l:List (Option Ob)} {τ k:Nat}:afterM s ι l τ (some k)=(mOf l k).map (Ob.ren (iotaO ι s.N)):=(rfl)
theorem afterM_none {s:S} {ι:List Nat} {l:List (Option Ob)} {τ:Nat}:afterM s ι l τ none=if s.N≤τ then (mOf l (τ - s.N+ι.length)).map (Ob.ren (iotaO ι s.N)) else (s.M τ).map (Ob.mapc (D.lent s ι)):=(rfl)
theorem swp_eq {σ τ k:Nat}:swp σ τ k=if k=σ then τ else if k=τ then σ else k:=(rfl)
theorem arrO_some {z:Nat} {es:List (List D)} {f w:Bool} {kd:Kd}:arrO (some ⟨z,es,f,w,kd⟩)=kd.isArr:=(rfl)
theorem posn_nil {τ:Nat}:posn τ []=none:=(rfl)
theorem posn_cons {τ x:Nat} {r:List Nat}:posn τ (x::r)=if τ=x then some 0 else (posn τ r).map (·+1):=(rfl)
theorem iotaO_eq {ι:List Nat} {N k:Nat}:iotaO ι N k=if k<ι.length then ι.getD k 0 else N+(k - ι.length):=(rfl)
theorem mOf_nil {k:Nat}:mOf [] k=none:=(rfl)
theorem mOf_zero {x:Option Ob} {r:List (Option Ob)}:mOf (x::r) 0=x:=(rfl)
theorem mOf_succ {x:Option Ob} {r:List (Option Ob)} {k:Nat}:mOf (x::r) (k+1)=mOf r k:=(rfl)
theorem mAll_nil {k:Nat}:mAll [] k=none:=(rfl)
theorem mAll_zero {x:Ob} {r:List Ob}:mAll (x::r) 0=some x:=(rfl)
theorem mAll_succ {x:Ob} {r:List Ob} {k:Nat}:mAll (x::r) (k+1)=mAll r k:=(rfl)
theorem look_nil {α:Type} {t:Nat}:look (α:=α) t []=none:=(rfl)
theorem look_cons {α:Type} {t i:Nat} {d:α} {r:List (Nat × α)}:look t ((i,d)::r)=if t=i then some d else look t r:=(rfl)
theorem isFix_some {z:Nat} {es:List (List D)} {f w:Bool} {kd:Kd}:isFix (some ⟨z,es,f,w,kd⟩) = !kd.isArr:=(rfl)
theorem isFix_none:isFix none=false:=(rfl)
theorem isArr_arr:Kd.arr.isArr=true:=(rfl)
theorem isArr_fix:Kd.fix.isArr=false:=(rfl)
theorem isArr_map {k:List IntKind} {ka va:Bool}:(Kd.map k ka va).isArr=false:=(rfl)
theorem isMap_arr:Kd.arr.isMap=false:=(rfl)
theorem isMap_fix:Kd.fix.isMap=false:=(rfl)
theorem isMap_map {k:List IntKind} {ka va:Bool}:(Kd.map k ka va).isMap=true:=(rfl)
theorem kd_ref:(if true=true then Kd.arr else Kd.fix)=.arr:=(rfl)
theorem kd_ptr:(if false=true then Kd.arr else Kd.fix)=.fix:=(rfl)
theorem mapc_t {sz:Nat} {es:List (List D)} {w:Bool} {kd:Kd} {f:D→D}:Ob.mapc f ⟨sz,es,true,w,kd⟩=⟨sz,es,true,w,kd⟩:=(rfl)
theorem mapc_f {sz:Nat} {es:List (List D)} {w:Bool} {kd:Kd} {f:D→D}:Ob.mapc f ⟨sz,es,false,w,kd⟩=⟨sz,es.map fun e=>e.map f,false,w,kd⟩:=(rfl)
theorem ren_t {sz:Nat} {es:List (List D)} {w:Bool} {kd:Kd} {f:Nat→Nat}:Ob.ren f ⟨sz,es,true,w,kd⟩=⟨sz,es,true,w,kd⟩:=(rfl)
theorem ren_f {sz:Nat} {es:List (List D)} {w:Bool} {kd:Kd} {f:Nat→Nat}:Ob.ren f ⟨sz,es,false,w,kd⟩=⟨sz,es.map fun e=>e.map (D.ren f),false,w,kd⟩:=(rfl)
theorem kill_v {τ:Nat} {x:Value}:(D.v x).kill τ=(D.v x):=by simp [D.kill,D.lf,killL]
theorem kill_nl {τ:Nat} :D.nl.kill τ=D.nl:=by simp [D.kill,D.lf,killL]
theorem kill_sl {τ:Nat} {sz:Nat} {es:List (List D)}:(D.sl sz es).kill τ=(D.sl sz es):=by simp [D.kill,D.lf,killL]
theorem kill_ip {τ:Nat} {e:List D} {o:Nat}:(D.ip e o).kill τ=(D.ip e o):=by simp [D.kill,D.lf,killL]
theorem kill_junk {τ:Nat} :D.junk.kill τ=D.junk:=by simp [D.kill,D.lf,killL]
theorem kill_ref {τ:Nat} {σ sz off n:Nat}:(D.ref σ sz off n).kill τ=if σ=τ then .junk else .ref σ sz off n:=by simp [D.kill,D.lf,killL]
theorem kill_ptr {τ:Nat} {σ sz i o:Nat}:(D.ptr σ sz i o).kill τ=if σ=τ then .junk else .ptr σ sz i o:=by simp [D.kill,D.lf,killL]
theorem kill_mp {τ:Nat} {σ:Nat}:(D.mp σ).kill τ=if σ=τ then .junk else .mp σ:=by simp [D.kill,D.lf,killL]
theorem kill_oo {τ:Nat} {ow:Bool} {sz:Nat} {es:List (List D)}:(D.own ow sz es).kill τ=.own ow sz es:=by simp [D.kill,D.lf,killL]
theorem kill_om {τ:Nat} {kd:Kd} {sz:Nat} {es:List (List D)}:(D.omp kd sz es).kill τ=.omp kd sz es:=by simp [D.kill,D.lf,killL]
theorem kill_ag {τ:Nat} {ds:List D}:(D.ag ds).kill τ=.ag (ds.map fun d=>d.kill τ):=lf_ag
theorem kill_tu {τ:Nat} {ds:List D}:(D.tu ds).kill τ=.tu (ds.map fun d=>d.kill τ):=lf_tu
theorem kill_clo {τ:Nat} {f:FuncId} {ds:List D}:(D.clo f ds).kill τ=.clo f (ds.map fun d=>d.kill τ):=lf_clo
theorem trim_v {m:Nat} {x:Value}:(D.v x).trim m=(D.v x):=by simp [D.trim,D.lf,trimL]
theorem trim_nl {m:Nat} :D.nl.trim m=D.nl:=by simp [D.trim,D.lf,trimL]
theorem trim_sl {m:Nat} {sz:Nat} {es:List (List D)}:(D.sl sz es).trim m=(D.sl sz es):=by simp [D.trim,D.lf,trimL]
theorem trim_ip {m:Nat} {e:List D} {o:Nat}:(D.ip e o).trim m=(D.ip e o):=by simp [D.trim,D.lf,trimL]
theorem trim_junk {m:Nat} :D.junk.trim m=D.junk:=by simp [D.trim,D.lf,trimL]
theorem trim_ref {m:Nat} {σ sz off n:Nat}:(D.ref σ sz off n).trim m=if σ<m then .ref σ sz off n else .junk:=by simp [D.trim,D.lf,trimL]
theorem trim_ptr {m:Nat} {σ sz i o:Nat}:(D.ptr σ sz i o).trim m=if σ<m then .ptr σ sz i o else .junk:=by simp [D.trim,D.lf,trimL]
theorem trim_mp {m:Nat} {σ:Nat}:(D.mp σ).trim m=if σ<m then .mp σ else .junk:=by simp [D.trim,D.lf,trimL]
theorem trim_oo {m:Nat} {ow:Bool} {sz:Nat} {es:List (List D)}:(D.own ow sz es).trim m=.own ow sz es:=by simp [D.trim,D.lf,trimL]
theorem trim_om {m:Nat} {kd:Kd} {sz:Nat} {es:List (List D)}:(D.omp kd sz es).trim m=.omp kd sz es:=by simp [D.trim,D.lf,trimL]
theorem trim_ag {m:Nat} {ds:List D}:(D.ag ds).trim m=.ag (ds.map fun d=>d.trim m):=lf_ag
theorem trim_tu {m:Nat} {ds:List D}:(D.tu ds).trim m=.tu (ds.map fun d=>d.trim m):=lf_tu
theorem trim_clo {m:Nat} {f:FuncId} {ds:List D}:(D.clo f ds).trim m=.clo f (ds.map fun d=>d.trim m):=lf_clo
theorem frz_v {τ:Nat} {ob:Ob} {x:Value}:(D.v x).frz τ ob=(D.v x):=by simp [D.frz,D.lf,frzL]
theorem frz_nl {τ:Nat} {ob:Ob} :D.nl.frz τ ob=D.nl:=by simp [D.frz,D.lf,frzL]
theorem frz_sl {τ:Nat} {ob:Ob} {sz:Nat} {es:List (List D)}:(D.sl sz es).frz τ ob=(D.sl sz es):=by simp [D.frz,D.lf,frzL]
theorem frz_ip {τ:Nat} {ob:Ob} {e:List D} {o:Nat}:(D.ip e o).frz τ ob=(D.ip e o):=by simp [D.frz,D.lf,frzL]
theorem frz_junk {τ:Nat} {ob:Ob} :D.junk.frz τ ob=D.junk:=by simp [D.frz,D.lf,frzL]
theorem frz_ref {τ:Nat} {ob:Ob} {σ sz off n:Nat}:(D.ref σ sz off n).frz τ ob=if σ=τ then viewO (some ob) sz off n else .ref σ sz off n:=by simp [D.frz,D.lf,frzL]
theorem frz_ptr {τ:Nat} {ob:Ob} {σ sz i o:Nat}:(D.ptr σ sz i o).frz τ ob=if σ=τ then viewP (some ob) sz i o else .ptr σ sz i o:=by simp [D.frz,D.lf,frzL]
theorem frz_mp {τ:Nat} {ob:Ob} {σ:Nat}:(D.mp σ).frz τ ob=if σ=τ then .junk else .mp σ:=by simp [D.frz,D.lf,frzL]
theorem frz_oo {τ:Nat} {ob:Ob} {ow:Bool} {sz:Nat} {es:List (List D)}:(D.own ow sz es).frz τ ob=.own ow sz es:=by simp [D.frz,D.lf,frzL]
theorem frz_om {τ:Nat} {ob:Ob} {kd:Kd} {sz:Nat} {es:List (List D)}:(D.omp kd sz es).frz τ ob=.omp kd sz es:=by simp [D.frz,D.lf,frzL]
theorem frz_ag {τ:Nat} {ob:Ob} {ds:List D}:(D.ag ds).frz τ ob=.ag (ds.map fun d=>d.frz τ ob):=lf_ag
theorem frz_tu {τ:Nat} {ob:Ob} {ds:List D}:(D.tu ds).frz τ ob=.tu (ds.map fun d=>d.frz τ ob):=lf_tu
theorem frz_clo {τ:Nat} {ob:Ob} {f:FuncId} {ds:List D}:(D.clo f ds).frz τ ob=.clo f (ds.map fun d=>d.frz τ ob):=lf_clo
theorem ren_v {ι:Nat→Nat} {x:Value}:(D.v x).ren ι=(D.v x):=by simp [D.ren,D.lf,renL]
theorem ren_nl {ι:Nat→Nat} :D.nl.ren ι=D.nl:=by simp [D.ren,D.lf,renL]
theorem ren_sl {ι:Nat→Nat} {sz:Nat} {es:List (List D)}:(D.sl sz es).ren ι=(D.sl sz es):=by simp [D.ren,D.lf,renL]
theorem ren_ip {ι:Nat→Nat} {e:List D} {o:Nat}:(D.ip e o).ren ι=(D.ip e o):=by simp [D.ren,D.lf,renL]
theorem ren_junk {ι:Nat→Nat} :D.junk.ren ι=D.junk:=by simp [D.ren,D.lf,renL]
theorem ren_ref {ι:Nat→Nat} {σ sz off n:Nat}:(D.ref σ sz off n).ren ι=.ref (ι σ) sz off n:=by simp [D.ren,D.lf,renL]
theorem ren_ptr {ι:Nat→Nat} {σ sz i o:Nat}:(D.ptr σ sz i o).ren ι=.ptr (ι σ) sz i o:=by simp [D.ren,D.lf,renL]
theorem ren_mp {ι:Nat→Nat} {σ:Nat}:(D.mp σ).ren ι=.mp (ι σ):=by simp [D.ren,D.lf,renL]
theorem ren_oo {ι:Nat→Nat} {ow:Bool} {sz:Nat} {es:List (List D)}:(D.own ow sz es).ren ι=.own ow sz es:=by simp [D.ren,D.lf,renL]
theorem ren_om {ι:Nat→Nat} {kd:Kd} {sz:Nat} {es:List (List D)}:(D.omp kd sz es).ren ι=.omp kd sz es:=by simp [D.ren,D.lf,renL]
theorem ren_ag {ι:Nat→Nat} {ds:List D}:(D.ag ds).ren ι=.ag (ds.map fun d=>d.ren ι):=lf_ag
theorem ren_tu {ι:Nat→Nat} {ds:List D}:(D.tu ds).ren ι=.tu (ds.map fun d=>d.ren ι):=lf_tu
theorem ren_clo {ι:Nat→Nat} {f:FuncId} {ds:List D}:(D.clo f ds).ren ι=.clo f (ds.map fun d=>d.ren ι):=lf_clo
theorem keep_v {s:S} {x:Value}:(D.v x).keep s=(D.v x):=by simp [D.keep,D.lf,keepL]
theorem keep_nl {s:S} :D.nl.keep s=D.nl:=by simp [D.keep,D.lf,keepL]
theorem keep_sl {s:S} {sz:Nat} {es:List (List D)}:(D.sl sz es).keep s=(D.sl sz es):=by simp [D.keep,D.lf,keepL]
theorem keep_ip {s:S} {e:List D} {o:Nat}:(D.ip e o).keep s=(D.ip e o):=by simp [D.keep,D.lf,keepL]
theorem keep_junk {s:S}:D.junk.keep s=D.junk:=by simp [D.keep,D.lf,keepL]
theorem keep_ref {s:S} {σ sz off n:Nat}:(D.ref σ sz off n).keep s=.junk:=by simp [D.keep,D.lf,keepL]
theorem keep_ptr {s:S} {σ sz i o:Nat}:(D.ptr σ sz i o).keep s=if isFix (s.M σ)=true then .ptr σ sz i o else .junk:=by simp [D.keep,D.lf,keepL]
theorem keep_mp {s:S} {σ:Nat}:(D.mp σ).keep s=if isFix (s.M σ)=true then .mp σ else .junk:=by simp [D.keep,D.lf,keepL]
theorem keep_oo {s:S} {ow:Bool} {sz:Nat} {es:List (List D)}:(D.own ow sz es).keep s=.junk:=by simp [D.keep,D.lf,keepL]
theorem keep_om {s:S} {kd:Kd} {sz:Nat} {es:List (List D)}:(D.omp kd sz es).keep s=.junk:=by simp [D.keep,D.lf,keepL]
theorem keep_ag {s:S} {ds:List D}:(D.ag ds).keep s=.ag (ds.map fun d=>d.keep s):=lf_ag
theorem keep_tu {s:S} {ds:List D}:(D.tu ds).keep s=.tu (ds.map fun d=>d.keep s):=lf_tu
theorem keep_clo {s:S} {f:FuncId} {ds:List D}:(D.clo f ds).keep s=.clo f (ds.map fun d=>d.keep s):=lf_clo
theorem lent_v {s:S} {ι:List Nat} {x:Value}:(D.v x).lent s ι=(D.v x):=by simp [D.lent,D.lf,lentL]
theorem lent_nl {s:S} {ι:List Nat} :D.nl.lent s ι=D.nl:=by simp [D.lent,D.lf,lentL]
theorem lent_sl {s:S} {ι:List Nat} {sz:Nat} {es:List (List D)}:(D.sl sz es).lent s ι=(D.sl sz es):=by simp [D.lent,D.lf,lentL]
theorem lent_ip {s:S} {ι:List Nat} {e:List D} {o:Nat}:(D.ip e o).lent s ι=(D.ip e o):=by simp [D.lent,D.lf,lentL]
theorem lent_junk {s:S} {ι:List Nat} :D.junk.lent s ι=D.junk:=by simp [D.lent,D.lf,lentL]
theorem lent_ref {s:S} {ι:List Nat} {σ sz off n:Nat}:(D.ref σ sz off n).lent s ι=if ((posn σ ι).isSome∧isFix (s.M σ)=false)∨(s.M σ).isNone then .junk else .ref σ sz off n:=by simp [D.lent,D.lf,lentL]
theorem lent_ptr {s:S} {ι:List Nat} {σ sz i o:Nat}:(D.ptr σ sz i o).lent s ι=if (posn σ ι).isSome∧isFix (s.M σ)=false then .junk else .ptr σ sz i o:=by simp [D.lent,D.lf,lentL]
theorem lent_mp {s:S} {ι:List Nat} {σ:Nat}:(D.mp σ).lent s ι=if (posn σ ι).isSome∧isFix (s.M σ)=false then .junk else .mp σ:=by simp [D.lent,D.lf,lentL]
theorem lent_oo {s:S} {ι:List Nat} {ow:Bool} {sz:Nat} {es:List (List D)}:(D.own ow sz es).lent s ι=.own ow sz es:=by simp [D.lent,D.lf,lentL]
theorem lent_om {s:S} {ι:List Nat} {kd:Kd} {sz:Nat} {es:List (List D)}:(D.omp kd sz es).lent s ι=.omp kd sz es:=by simp [D.lent,D.lf,lentL]
theorem lent_ag {s:S} {ι:List Nat} {ds:List D}:(D.ag ds).lent s ι=.ag (ds.map fun d=>d.lent s ι):=lf_ag
theorem lent_tu {s:S} {ι:List Nat} {ds:List D}:(D.tu ds).lent s ι=.tu (ds.map fun d=>d.lent s ι):=lf_tu
theorem lent_clo {s:S} {ι:List Nat} {f:FuncId} {ds:List D}:(D.clo f ds).lent s ι=.clo f (ds.map fun d=>d.lent s ι):=lf_clo
theorem view_v {s:S} {x:Value}:s.view (D.v x)=(D.v x):=by simp [S.view,D.lf,S.viewL]
theorem view_nl {s:S} :s.view D.nl=D.nl:=by simp [S.view,D.lf,S.viewL]
theorem view_sl {s:S} {sz:Nat} {es:List (List D)}:s.view (D.sl sz es)=(D.sl sz es):=by simp [S.view,D.lf,S.viewL]
theorem view_ip {s:S} {e:List D} {o:Nat}:s.view (D.ip e o)=(D.ip e o):=by simp [S.view,D.lf,S.viewL]
theorem view_junk {s:S} :s.view D.junk=D.junk:=by simp [S.view,D.lf,S.viewL]
theorem view_ref {s:S} {σ sz off n:Nat}:s.view (D.ref σ sz off n)=viewO (s.M σ) sz off n:=by simp [S.view,D.lf,S.viewL]
theorem view_ptr {s:S} {σ sz i o:Nat}:s.view (D.ptr σ sz i o)=viewP (s.M σ) sz i o:=by simp [S.view,D.lf,S.viewL]
theorem view_mp {s:S} {σ:Nat}:s.view (D.mp σ)=.junk:=by simp [S.view,D.lf,S.viewL]
theorem view_oo {s:S} {ow:Bool} {sz:Nat} {es:List (List D)}:s.view (D.own ow sz es)=.junk:=by simp [S.view,D.lf,S.viewL]
theorem view_om {s:S} {kd:Kd} {sz:Nat} {es:List (List D)}:s.view (D.omp kd sz es)=.junk:=by simp [S.view,D.lf,S.viewL]
theorem view_ag {s:S} {ds:List D}:s.view (D.ag ds)=.ag (ds.map s.view):=lf_ag
theorem view_tu {s:S} {ds:List D}:s.view (D.tu ds)=.tu (ds.map s.view):=lf_tu
theorem view_clo {s:S} {f:FuncId} {ds:List D}:s.view (D.clo f ds)=.clo f (ds.map s.view):=lf_clo
theorem owned_v {x:Value}:(D.v x).owned=false:=by simp [D.owned,D.alls,clJ]
theorem owned_nl:D.nl.owned=false:=by simp [D.owned,D.alls,clJ]
theorem owned_sl {sz:Nat} {es:List (List D)}:(D.sl sz es).owned=false:=by simp [D.owned,D.alls,clJ]
theorem owned_ip {e:List D} {o:Nat}:(D.ip e o).owned=false:=by simp [D.owned,D.alls,clJ]
theorem owned_junk:D.junk.owned=false:=by simp [D.owned,D.alls,clJ]
theorem owned_ref {τ sz off n:Nat}:(D.ref τ sz off n).owned=true:=by simp [D.owned,D.alls,clJ]
theorem owned_ptr {τ sz i o:Nat}:(D.ptr τ sz i o).owned=true:=by simp [D.owned,D.alls,clJ]
theorem owned_mp {τ:Nat}:(D.mp τ).owned=true:=by simp [D.owned,D.alls,clJ]
theorem all_not {ds:List D} {f:D→Bool}:(!ds.all f)=ds.any fun d => !f d:=by induction ds with|nil=>rfl|cons d l ih=>simp only [List.all_cons,List.any_cons,Bool.not_and,ih]
theorem owned_ag {ds:List D}:(D.ag ds).owned=ds.any D.owned:=by unfold D.owned;rw [alls_ag,all_not]
theorem owned_tu {ds:List D}:(D.tu ds).owned=ds.any D.owned:=by unfold D.owned;rw [alls_tu,all_not]
theorem owned_clo {f:FuncId} {ds:List D}:(D.clo f ds).owned=ds.any D.owned:=by unfold D.owned;rw [alls_clo,all_not]
theorem cl_v {x:Value}:(D.v x).cl=true:=by simp [D.cl,D.alls,clL]
theorem cl_nl:D.nl.cl=true:=by simp [D.cl,D.alls,clL]
theorem cl_sl {sz:Nat} {es:List (List D)}:(D.sl sz es).cl=true:=by simp [D.cl,D.alls,clL]
theorem cl_ip {e:List D} {o:Nat}:(D.ip e o).cl=true:=by simp [D.cl,D.alls,clL]
theorem cl_junk:D.junk.cl=false:=by simp [D.cl,D.alls,clL]
theorem cl_ref {τ sz off n:Nat}:(D.ref τ sz off n).cl=false:=by simp [D.cl,D.alls,clL]
theorem cl_ptr {τ sz i o:Nat}:(D.ptr τ sz i o).cl=false:=by simp [D.cl,D.alls,clL]
theorem cl_mp {τ:Nat}:(D.mp τ).cl=false:=by simp [D.cl,D.alls,clL]
theorem isOwn_sl {sz:Nat} {es:List (List D)}:(D.sl sz es).isOwn=false:=(rfl)
theorem isOwn_v {x:Value}:(D.v x).isOwn=false:=(rfl)
theorem cl_own {ow:Bool} {sz:Nat} {es:List (List D)}:(D.own ow sz es).cl=false:=by simp [D.cl,D.alls,clL]
theorem cl_omp {kd:Kd} {sz:Nat} {es:List (List D)}:(D.omp kd sz es).cl=false:=by simp [D.cl,D.alls,clL]
theorem cl_clo {f:FuncId} {ds:List D}:(D.clo f ds).cl=ds.all D.cl:=by unfold D.cl;rw [alls_clo]
theorem plain_v {x:Value}:(D.v x).plain=true:=by simp [D.plain,D.alls,plL]
theorem plain_ag {ds:List D}:(D.ag ds).plain=ds.all D.plain:=by unfold D.plain;rw [alls_ag]
theorem plain_tu {ds:List D}:(D.tu ds).plain=ds.all D.plain:=by unfold D.plain;rw [alls_tu]
theorem clo'_own {ow:Bool} {sz:Nat} {es:List (List D)}:(D.own ow sz es).clo'=true:=(rfl)
theorem clo'_omp {kd:Kd} {sz:Nat} {es:List (List D)}:(D.omp kd sz es).clo'=true:=(rfl)
theorem clo'_v {x:Value}:(D.v x).clo'=true:=cl_v
theorem clo'_nl:D.nl.clo'=true:=cl_nl
theorem clo'_sl {sz:Nat} {es:List (List D)}:(D.sl sz es).clo'=true:=cl_sl
theorem un_v {x:Value}:(D.v x).un=.v x:=(rfl)
theorem un_nl:D.nl.un=.nl:=(rfl)
theorem un_sl {sz:Nat} {es:List (List D)}:(D.sl sz es).un=.sl sz es:=(rfl)
theorem un_ip {e:List D} {o:Nat}:(D.ip e o).un=.ip e o:=(rfl)
theorem un_ref {τ sz off n:Nat}:(D.ref τ sz off n).un=.ref τ sz off n:=(rfl)
theorem un_ptr {τ sz i o:Nat}:(D.ptr τ sz i o).un=.ptr τ sz i o:=(rfl)
theorem un_mp {τ:Nat}:(D.mp τ).un=.mp τ:=(rfl)
theorem un_clo {f:FuncId} {ds:List D}:(D.clo f ds).un=.clo f ds:=(rfl)
theorem un_junk:D.junk.un=.junk:=(rfl)
theorem un_own {ow:Bool} {sz:Nat} {es:List (List D)}:(D.own ow sz es).un=.junk:=(rfl)
theorem un_omp {kd:Kd} {sz:Nat} {es:List (List D)}:(D.omp kd sz es).un=.junk:=(rfl)
theorem splice_eq {c ds:List D} {o:Nat}:splice c o ds=c.take o++ds++c.drop (o+ds.length):=(rfl)
theorem cast0:((0:Nat):Int)=0:=(rfl)
theorem castS {n:Nat}:((n+1:Nat):Int)=(n:Int)+1:=(rfl)
theorem cast1:((1:Nat):Int)=1:=(rfl)
theorem nsub_self {n:Nat}:n - n=0:=Nat.sub_self n
theorem append_nil' {l:List D}:l++[]=l:=List.append_nil l
theorem one_int {k:IntKind} {n:Int}:(D.v (.int k n)).one=true:=(rfl)
theorem one_bool {b:Bool}:(D.v (.bool b)).one=true:=(rfl)
theorem one_map {b:Option Nat}:(D.v (.map b)).one=true:=(rfl)
theorem one_pointer {b:Option Addr}:(D.v (.pointer b)).one=true:=(rfl)
theorem one_nilFunc:(D.v .nilFunc).one=true:=(rfl)
theorem one_nl:D.nl.one=true:=(rfl)
theorem one_sl {sz:Nat} {es:List (List D)}:(D.sl sz es).one=true:=(rfl)
theorem one_ip {e:List D} {o:Nat}:(D.ip e o).one=true:=(rfl)
theorem one_ref {τ sz off n:Nat}:(D.ref τ sz off n).one=true:=(rfl)
theorem one_ptr {τ sz i o:Nat}:(D.ptr τ sz i o).one=true:=(rfl)
theorem one_mp {τ:Nat}:(D.mp τ).one=true:=(rfl)
theorem one_clo {f:FuncId} {ds:List D}:(D.clo f ds).one=true:=(rfl)
theorem cells_ag {ds:List D}:(D.ag ds).cells=ds:=(rfl)
theorem cells_v {x:Value}:(D.v x).cells=[.v x]:=(rfl)
theorem cells_nl:D.nl.cells=[.nl]:=(rfl)
theorem cells_sl {sz:Nat} {es:List (List D)}:(D.sl sz es).cells=[.sl sz es]:=(rfl)
theorem cells_ip {e:List D} {o:Nat}:(D.ip e o).cells=[.ip e o]:=(rfl)
theorem cells_ref {τ sz off n:Nat}:(D.ref τ sz off n).cells=[.ref τ sz off n]:=(rfl)
theorem cells_ptr {τ sz i o:Nat}:(D.ptr τ sz i o).cells=[.ptr τ sz i o]:=(rfl)
theorem cells_mp {τ:Nat}:(D.mp τ).cells=[.mp τ]:=(rfl)
theorem cells_clo {f:FuncId} {ds:List D}:(D.clo f ds).cells=[.clo f ds]:=(rfl)
theorem cells_junk:D.junk.cells=[.junk]:=(rfl)
def vwR (es:List (List D)):List (List D):=es.map fun e=>e.map D.vw
theorem viewO_f {sz off n:Nat} {es:List (List D)} {kd:Kd} (hk:kd.isMap=false) (h:off+n≤es.length):viewO (some ⟨sz,es,true,false,kd⟩) sz off n=.sl sz ((es.drop off).take n):=by simp [viewO,h,hk,Ob.vrows]
theorem viewO_a {sz off n:Nat} {es:List (List D)} (h:off+n≤es.length):viewO (some ⟨sz,es,true,false,.arr⟩) sz off n=.sl sz ((es.drop off).take n):=viewO_f rfl h
theorem viewO_w {sz off n:Nat} {es:List (List D)} (h:off+n≤es.length):viewO (some ⟨sz,es,true,true,.arr⟩) sz off n=.sl sz (((vwR es).drop off).take n):=by simp [viewO,h,Ob.vrows,vwR,Kd.isMap]
theorem viewO_all {sz n:Nat} {es:List (List D)} (h:n=es.length):viewO (some ⟨sz,es,true,false,.arr⟩) sz 0 n=.sl sz es:=by rw [viewO_a (by omega)];simp [h]
theorem viewO_allw {sz n:Nat} {es:List (List D)} (h:n=es.length):viewO (some ⟨sz,es,true,true,.arr⟩) sz 0 n=.sl sz (vwR es):=by rw [viewO_w (by omega),List.drop_zero,List.take_of_length_le (by simp [vwR,h])]
theorem viewO_none {sz off n:Nat}:viewO none sz off n=.junk:=(rfl)
theorem viewO_open {sz off n z:Nat} {es:List (List D)} {w:Bool} {kd:Kd}:viewO (some ⟨z,es,false,w,kd⟩) sz off n=.junk:=(rfl)
theorem viewP_x {sz i o:Nat} {es:List (List D)} {kd:Kd} (hk:kd.isMap=false) (h:i<es.length):viewP (some ⟨sz,es,true,false,kd⟩) sz i o=.ip (es.getD i []) o:=by simp [viewP,h,hk,Ob.vrows]
theorem viewP_f {sz i o:Nat} {es:List (List D)} (h:i<es.length):viewP (some ⟨sz,es,true,false,.fix⟩) sz i o=.ip (es.getD i []) o:=viewP_x rfl h
theorem viewP_a {sz i o:Nat} {es:List (List D)} (h:i<es.length):viewP (some ⟨sz,es,true,false,.arr⟩) sz i o=.ip (es.getD i []) o:=viewP_x rfl h
theorem viewP_w {sz i o:Nat} {es:List (List D)} {kd:Kd} (hk:kd.isMap=false) (h:i<es.length):viewP (some ⟨sz,es,true,true,kd⟩) sz i o=.ip ((vwR es).getD i []) o:=by simp [viewP,h,hk,Ob.vrows,vwR]
theorem viewP_fw {sz i o:Nat} {es:List (List D)} (h:i<es.length):viewP (some ⟨sz,es,true,true,.fix⟩) sz i o=.ip ((vwR es).getD i []) o:=viewP_w rfl h
theorem viewP_aw {sz i o:Nat} {es:List (List D)} (h:i<es.length):viewP (some ⟨sz,es,true,true,.arr⟩) sz i o=.ip ((vwR es).getD i []) o:=viewP_w rfl h
theorem viewP_none {sz i o:Nat}:viewP none sz i o=.junk:=(rfl)
theorem viewP_open {sz i o z:Nat} {es:List (List D)} {w:Bool} {kd:Kd}:viewP (some ⟨z,es,false,w,kd⟩) sz i o=.junk:=(rfl)
theorem srcO_f {sz off n:Nat} {es:List (List D)} {f:Bool} {kd:Kd} (hk:kd.isMap=false) (h:off+n≤es.length):srcO (some ⟨sz,es,f,false,kd⟩) sz off n=(.sl sz ((es.drop off).take n),f):=by simp [srcO,h,hk]
theorem srcO_a {sz off n:Nat} {es:List (List D)} {f:Bool} (h:off+n≤es.length):srcO (some ⟨sz,es,f,false,.arr⟩) sz off n=(.sl sz ((es.drop off).take n),f):=srcO_f rfl h
theorem srcO_all {sz n:Nat} {es:List (List D)} {f:Bool} (h:n=es.length):srcO (some ⟨sz,es,f,false,.arr⟩) sz 0 n=(.sl sz es,f):=by rw [srcO_a (by omega)];simp [h]
theorem take_all {α:Type} {l:List α} {n:Nat} (h:n=l.length):l.take n=l:=by simp [h]
def kCallw (P:Program) (f:FuncId) (d:Option Nat) (K:S→Prop) (s:S) (raws:List D):Prop:=CallVC P f d K raws s
section
variable {P:Program} {s:S} {K:S→Prop} {d:Option Nat}
theorem putK_eq {x:D}:putK d s K x=K (s.put d x):=(rfl)
theorem skipK_eq:skipK d K s=K (s.put d (.v undef)):=(rfl)
theorem vcOps_nil:vcOps P [] K s=K s:=(rfl)
theorem vcOps_cons {i:MI} {r:List Op1}:vcOps P (⟨none,d,i⟩::r) K s=vcI P i d (vcOps P r K) s:=(rfl)
theorem vcOps_gd {i:MI} {g:Nat} {b:Bool} {r:List Op1}:vcOps P (⟨some (g,b),d,i⟩::r) K s=kGd (s.ρ g) g b (vcI P i d (vcOps P r K)) (skipK d (vcOps P r K)) s:=(rfl)
theorem vcI_mov {x:O}:vcI P (.mov x) d K s=kD (s.g x) (putK d s K):=(rfl)
theorem vcI_pick {c a b:O}:vcI P (.pick c a b) d K s=kPick (s.g c) (s.g a) (s.g b) (putK d s K):=(rfl)
theorem vcI_len {x:O}:vcI P (.len x) d K s=kLen (s.g x) (putK d s K):=(rfl)
theorem vcI_idx {x i:O} {sz:Nat}:vcI P (.idx x i sz) d K s=kIdx (s.g x) (s.g i) sz (putK d s K):=(rfl)
theorem vcI_idxa {x i:O} {sz n:Nat}:vcI P (.idxa x i sz n) d K s=kIdxa (s.g x) (s.g i) sz n (putK d s K):=(rfl)
theorem vcI_idxv {x i:O} {sz n:Nat} {agg:Bool}:vcI P (.idxv x i sz n agg) d K s=kIdxv (s.g x) (s.g i) sz n agg (putK d s K):=(rfl)
theorem vcI_fld {x:O} {off:Nat}:vcI P (.fld x off) d K s=kFld (s.g x) off (putK d s K):=(rfl)
theorem vcI_ld1 {x:O}:vcI P (.ld1 x) d K s=kLd s (s.g x) (putS d K):=(rfl)
theorem putS_eq {x:D}:putS d K s x=K (s.put d x):=(rfl)
theorem vcI_ldn {x:O} {n:Nat}:vcI P (.ldn x n) d K s=kLdw s x n (putS d K) (s.g x):=(rfl)
theorem vcI_bin {op:BinOp} {x y:O}:vcI P (.bin op x y) d K s=kBin op (s.g x) (s.g y) (putK d s K):=(rfl)
theorem vcI_appz {x y:O} {sz:Nat} {zero:List D} {bytes:Nat}:vcI P (.appz x y sz zero bytes) d K s=kAppz s d sz zero bytes K (s.g x) (s.g y):=(rfl)
theorem vcI_isnil {neg:Bool} {x:O}:vcI P (.isnil neg x) d K s=kIsnil neg (s.g x) (putK d s K):=(rfl)
theorem vcI_cap {x:O}:vcI P (.cap x) d K s=kCap (s.g x) (putK d s K):=(rfl)
theorem vcI_eqb {neg:Bool} {x y:O}:vcI P (.eqb neg x y) d K s=kEqb neg (s.g x) (s.g y) (putK d s K):=(rfl)
theorem vcI_not {x:O}:vcI P (.not x) d K s=kNot (s.g x) (putK d s K):=(rfl)
theorem vcI_neg {x:O}:vcI P (.neg x) d K s=kNeg (s.g x) (putK d s K):=(rfl)
theorem vcI_cvi {q:IntKind} {x:O}:vcI P (.cvi q x) d K s=kCvi q (s.g x) (putK d s K):=(rfl)
theorem vcI_ext {x:O} {i:Nat}:vcI P (.ext x i) d K s=kExt (s.g x) i (putK d s K):=(rfl)
theorem vcI_getf {x:O} {off n:Nat} {agg:Bool}:vcI P (.getf x off n agg) d K s=kGetf (s.g x) off n agg (putK d s K):=(rfl)
theorem vcI_sub {x:O} {lo hi:Option O} {sz:Nat}:vcI P (.sub x lo hi sz) d K s=kSub (s.g x) (s.lo lo) (s.hi (s.g x) hi) sz (putK d s K):=(rfl)
theorem lo_some {o:O}:s.lo (some o)=s.g o:=(rfl)
theorem lo_none:s.lo none=.v (.int .i64 0):=(rfl)
theorem hi_some {x:D} {o:O}:s.hi x (some o)=s.g o:=(rfl)
theorem hi_none {x:D}:s.hi x none=lenDD x:=(rfl)
theorem vcI_mkf {f:FuncId} {ds:List O}:vcI P (.mkf f ds) d K s=kD (.clo f (ds.map s.g)) (putK d s K):=(rfl)
theorem vcI_min {x y:O}:vcI P (.min x y) d K s=kMin false (s.g x) (s.g y) (putK d s K):=(rfl)
theorem vcI_max {x y:O}:vcI P (.max x y) d K s=kMin true (s.g x) (s.g y) (putK d s K):=(rfl)
theorem vcI_bld {zero:List D} {parts:List (Nat × Nat × O)}:vcI P (.bld zero parts) d K s=kBld s (putK d s K) parts zero:=(rfl)
theorem kBld_nil {cells:List D} {k:D→Prop}:kBld s k [] cells=k (.ag cells):=(rfl)
theorem kBld_cons {cells:List D} {off n:Nat} {o:O} {r:List (Nat × Nat × O)} {k:D→Prop}:kBld s k ((off,n,o)::r) cells=kBldS off n cells (kBld s k r) (s.g o).cells:=(rfl)
theorem kBldS_1 {cells:List D} {off:Nat} {d:D} {go:List D→Prop}:kBldS off 1 cells go [d]=ChkD (off+1≤cells.length∧d.one=true) (cells.set off d) go:=by
  unfold kBldS ChkD
  by_cases h:off+1≤cells.length
  · simp [h,splice,List.set_eq_take_append_cons_drop,show off<cells.length by omega]
  · simp [h]
theorem kBldS_n {cells:List D} {off n:Nat} {ds:List D} {go:List D→Prop}:kBldS off n cells go ds=ChkD (ds.length=n∧off+n≤cells.length∧ds.all D.one=true) (splice cells off ds) go:=(rfl)
theorem vcI_nil {sz:Nat}:vcI P (.nil sz) d K s=K (s.newt d ⟨sz,[],true,false,.arr⟩ fun τ=>.ref τ sz 0 0):=(rfl)
theorem vcI_new {zero:List D}:vcI P (.new zero) d K s=K (s.newt d ⟨zero.length,[zero],true,false,.fix⟩ fun τ=>.ptr τ zero.length 0 0):=(rfl)
theorem vcI_box {x:O} {n:Nat}:vcI P (.box x n) d K s=kD [(s.g x).cells] (kRows s d n false K):=(rfl)
theorem vcI_mk {len:O} {sz:Nat} {zero:List D} {bytes:Nat}:vcI P (.mk len sz zero bytes) d K s=kMk s d sz zero bytes K (s.g len):=(rfl)
theorem vcI_bsl {sz:Nat} {es:List O}:vcI P (.bsl sz es) d K s=kD (es.map fun o=>(s.g o).cells) (kRows s d sz true K):=(rfl)
theorem kRows_ref {n:Nat} {xs:List (List D)}:kRows s d n true K xs=Chk (xs.all (fun e=>e.length == n && e.all D.one)=true) K (s.newt d ⟨n,xs,xs.all (fun e=>e.all D.cl),false,.arr⟩ fun τ=>.ref τ n 0 xs.length):=(rfl)
theorem kRows_ptr {n:Nat} {xs:List (List D)}:kRows s d n false K xs=Chk (xs.all (fun e=>e.length == n && e.all D.one)=true) K (s.newt d ⟨n,xs,xs.all (fun e=>e.all D.cl),false,.fix⟩ fun τ=>.ptr τ n 0 0):=(rfl)
theorem vcI_st1 {x y:O}:vcI P (.st1 x y) d K s=kSt s d K (s.g x) (s.g y):=(rfl)
theorem vcI_stn {x y:O} {n:Nat}:vcI P (.stn x y n) d K s=kStn s d n K (s.g x) (s.g y):=(rfl)
theorem vcI_app {x y:O} {sz bytes:Nat}:vcI P (.app x y sz bytes) d K s=kApp s d sz bytes K (s.g x) (s.src (s.g y)):=(rfl)
theorem vcI_call {f:FuncId} {args:List O}:vcI P (.call f args) d K s=CallV P f ((args.map s.g).map s.view) ((args.map s.g).any D.owned) (args.map s.g) s d K:=callV_eq
theorem vcI_callv {x:O} {args:List O}:vcI P (.callv x args) d K s=kCallv P d K s (args.map s.g) (s.g x):=(rfl)
theorem kCallv_clo {f:FuncId} {ds args:List D}:kCallv P d K s args (.clo f ds)=kD (args++ds) (kCallw P f d K s):=(rfl)
theorem kCallw_eq {f:FuncId} {raws:List D}:kCallw P f d K s raws=CallV P f (raws.map s.view) (raws.any D.owned) raws s d K:=callV_eq
theorem vcI_callp {f:FuncId} {args:List O}:vcI P (.callp f args) d K s=CallP P f ((args.map s.g).map s.view) ((args.map s.g).any D.owned) (args.map s.g) s d K:=callP_eq
theorem vcI_mmk {ks:List IntKind} {ka va:Bool} {vz:Nat}:vcI P (.mmk ks ka va vz) d K s=K (s.newt d ⟨ks.length+vz,[],true,false,.map ks ka va⟩ fun τ=>.mp τ):=(rfl)
theorem vcI_sla {x:O} {n:Nat}:vcI P (.sla x n) d K s=kSla s (s.g x) n (putK d s K):=(rfl)
theorem vcI_cpy {x y:O}:vcI P (.cpy x y) d K s=kCpy s d K (s.g x) (s.g y):=(rfl)
theorem vcI_rng {x:O}:vcI P (.rng x) d K s=kRng s d K (s.g x):=(rfl)
theorem vcI_nxt {x:O}:vcI P (.nxt x) d K s=NxtVC d K s (s.g x):=(rfl)
theorem vcI_ent {x:O}:vcI P (.ent x) d K s=EntVC d K s (s.g x):=(rfl)
theorem vcI_mlen {x:O}:vcI P (.mlen x) d K s=kMlen s (s.g x) (putK d s K):=(rfl)
theorem vcI_mlk {x y:O} {ks:List IntKind} {ka va:Bool} {vz:Nat} {ok:Bool} {zero:List D}:vcI P (.mlk x y ks ka va vz ok zero) d K s=kMlk s (s.g x) (s.g y) ks ka va vz ok zero (putK d s K):=(rfl)
theorem vcI_mup {x y z:O} {ks:List IntKind} {ka va:Bool} {vz:Nat}:vcI P (.mup x y z ks ka va vz) d K s=kMup s d (s.g x) (s.g y) (s.g z) ks ka va vz K:=(rfl)
theorem vcI_men {x y:O} {ks:List IntKind} {ka va:Bool} {vz:Nat} {zero:List D}:vcI P (.men x y ks ka va vz zero) d K s=kMen s d (s.g x) (s.g y) ks ka va vz zero K:=(rfl)
theorem vcI_mes {x y z:O} {ks:List IntKind} {ka va:Bool} {vz:Nat}:vcI P (.mes x y z ks ka va vz) d K s=kMes s d (s.g x) (s.g y) (s.g z) ks ka va vz K:=(rfl)
theorem vcI_eqs {neg:Bool} {x y:O} {ks:List IntKind}:vcI P (.eqs neg x y ks) d K s=kEqs neg (s.g x) (s.g y) ks (putK d s K):=(rfl)
theorem vcI_bla {zero:List D} {sz:Nat} {parts:List (Nat × O)}:vcI P (.bla zero sz parts) d K s=kBla s (putK d s K) sz parts zero:=(rfl)
theorem kBla_nil {cells:List D} {k:D→Prop} {sz:Nat}:kBla s k sz [] cells=k (.ag cells):=(rfl)
theorem kBla_cons {cells:List D} {i sz:Nat} {o:O} {r:List (Nat × O)} {k:D→Prop}:kBla s k sz ((i,o)::r) cells=kBlaS (i * sz) sz cells (kBla s k sz r) (s.g o).cells:=(rfl)
theorem kBlaS_1 {cells:List D} {off:Nat} {d:D} {go:List D→Prop}:kBlaS off 1 cells go [d]=ChkD (off+1≤cells.length∧d.one=true) (cells.set off d) go:=by
  unfold kBlaS ChkD
  by_cases h:off+1≤cells.length
  · simp [h,splice,List.set_eq_take_append_cons_drop,show off<cells.length by omega]
  · simp [h]
theorem kBlaS_n {cells:List D} {off n:Nat} {ds:List D} {go:List D→Prop}:kBlaS off n cells go ds=ChkD (ds.length=n∧off+n≤cells.length∧ds.all D.one=true) (splice cells off ds) go:=(rfl)
theorem vcI_nck {x:O}:vcI P (.nck x) d K s=kNck (s.g x) (putK d s K):=(rfl)
theorem vcI_bad:vcI P .bad d K s=False:=(rfl)
theorem newt_eq {ob:Ob} {x:Nat→D}:s.newt d ob x=((s.setM s.N ob).setN (s.N+1)).put d (x s.N):=(rfl)
end
section
variable {P:Program} {s:S} {st:List Fr}
theorem vc_skip:vc P .skip st s=rs P .nrm st s:=by rw [vc]
theorem vc_reg {q:Nat} {ops:List Op1}:vc P (.reg q ops) st s=vcOps P ops (rs P .nrm st) s:=by rw [vc]
theorem vc_dreg {asg:List Nat} {t u:DT}:vc P (.dreg asg t u) st s=DrawVC P asg t u (rs P .nrm st) s:=by rw [vc]
theorem vcT_done {K:S→Prop}:vcT P .done K s=K s:=(rfl)
theorem vcT_op {o:Op1} {t:DT} {K:S→Prop}:vcT P (.op o t) K s=vcOps P [o] (vcT P t K) s:=(rfl)
theorem vcT_alt {t u:DT} {K:S→Prop}:vcT P (.alt t u) K s=AltVC (vcT P t K) (vcT P u K) s:=(rfl)
theorem vc_seq {a b:MC}:vc P (.seq a b) st s=vc P a (.s b::st) s:=by rw [vc]
theorem vc_cond {c:O} {x y:MC}:vc P (.cond c x y) st s=kCond (s.g c) (vc P x st) (vc P y st) s:=by rw [vc]
theorem vc_blk {id:Nat} {c:MC}:vc P (.blk id c) st s=vc P c (.b id::st) s:=by rw [vc]
theorem vc_loop {asg:List Nat} {c:MC}:vc P (.loop asg c) st s=LoopVC P asg c st s:=by rw [vc];rfl
theorem vc_rf {L:List Nat} {g:O} {ps:List Nat} {a c:MC}:vc P (.rf L g ps a c) st s=RfVC P L g ps a c st s:=RfVC_eq
theorem rfA_n {c:MC} {F:Ex→S→Prop}:rfA P c F .nrm s=vc P c [.f F] s:=(rfl)
theorem rfB_n {X:Type} {L:List Nat} {us:X→List (Nat × D)} {ms:X→List (Nat × Ob)} {Inv:Nat→X→Prop} {n k:Nat} {s0:S}:rfB P L us ms Inv n k st s0 .nrm s=rfK us ms Inv n k s:=(rfl)
theorem rfB_e {X:Type} {L:List Nat} {us:X→List (Nat × D)} {ms:X→List (Nat × Ob)} {Inv:Nat→X→Prop} {n k i:Nat} {s0:S}:rfB P L us ms Inv n k st s0 (.exit i) s=rs P (.exit i) st (s0.jmp s L):=(rfl)
theorem rfB_r {X:Type} {L:List Nat} {us:X→List (Nat × D)} {ms:X→List (Nat × Ob)} {Inv:Nat→X→Prop} {n k:Nat} {s0:S}:rfB P L us ms Inv n k st s0 .ret s=rs P .ret st (s0.jmp s L):=(rfl)
theorem vc_exit {id:Nat}:vc P (.exit id) st s=rs P (.exit id) st s:=by rw [vc]
theorem vc_bad:vc P .bad st s=False:=by rw [vc]
theorem vc_ret:vc P .ret st s=rs P .ret st s:=by rw [vc]
theorem rs_f {e:Ex} {F:Ex→S→Prop}:rs P e (.f F::st) s=F e s:=by cases e<;>rw [rs]
theorem rs_sn {c:MC}:rs P .nrm (.s c::st) s=vc P c st s:=by rw [rs]
theorem rs_se {c:MC} {i:Nat}:rs P (.exit i) (.s c::st) s=rs P (.exit i) st s:=by rw [rs]
theorem rs_sr {c:MC}:rs P .ret (.s c::st) s=rs P .ret st s:=by rw [rs]
theorem rs_bn {id:Nat}:rs P .nrm (.b id::st) s=rs P .nrm st s:=by rw [rs]
theorem rs_be {i id:Nat}:rs P (.exit i) (.b id::st) s=if i=id then rs P .nrm st s else rs P (.exit i) st s:=by rw [rs]
theorem rs_br {id:Nat}:rs P .ret (.b id::st) s=rs P .ret st s:=by rw [rs]
theorem rs_ln {J:S→Prop}:rs P .nrm (.l J::st) s=J s:=by rw [rs]
theorem rs_le {i:Nat} {J:S→Prop}:rs P (.exit i) (.l J::st) s=rs P (.exit i) st s:=by rw [rs]
theorem rs_lr {J:S→Prop}:rs P .ret (.l J::st) s=rs P .ret st s:=by rw [rs]
theorem finQ_nrm {rs:List RO} {R:D→Prop}:finQ rs R .nrm s=kRes s (FinC R s) rs []:=(rfl)
theorem finQ_ret {rs:List RO} {R:D→Prop}:finQ rs R .ret s=kRes s (FinC R s) rs []:=(rfl)
theorem finH_nrm {n0:Nat} {rs:List RO} {R:D→List (Option Ob)→Prop}:finH n0 rs R .nrm s=kRes s (FinH n0 R s) rs []:=(rfl)
theorem finH_ret {n0:Nat} {rs:List RO} {R:D→List (Option Ob)→Prop}:finH n0 rs R .ret s=kRes s (FinH n0 R s) rs []:=(rfl)
theorem kRes_nil {E:D→Prop} {acc:List D}:kRes s E [] acc=kD (resD acc) E:=(rfl)
theorem kRes_t {E:D→Prop} {n:Nat} {r:List RO} {acc:List D}:kRes s E (.t n::r) acc=kD (s.ρ n) (resN s E r acc):=(rfl)
theorem kRes_cell {E:D→Prop} {n sz:Nat} {agg:Bool} {r:List RO} {acc:List D}:kRes s E (.cell n sz agg::r) acc=kCell s sz agg (resN s E r acc) (s.ρ n):=(rfl)
theorem resN_eq {E:D→Prop} {r:List RO} {acc:List D} {x:D}:resN s E r acc x=kRes s E r (acc++[x]):=(rfl)
theorem kCell_ptr {τ z i o sz:Nat} {agg:Bool} {k:D→Prop}:kCell s sz agg k (.ptr τ z i o)=kM (s.M τ) (kCellO z i o sz agg k):=(rfl)
theorem kCellO_agg {z z' i o sz:Nat} {es:List (List D)} {fl ow:Bool} {kd:Kd} {k:D→Prop}:kCellO z i o sz true k ⟨z',es,fl,ow,kd⟩=Chk (z'=z∧i<es.length∧o+sz≤z∧0<sz∧kd.isMap=false) (kD (.ag (uns ow (((es.getD i []).drop o).take sz)))) k:=by simp [kCellO]
theorem kCellO_one {z z' i o:Nat} {es:List (List D)} {fl ow:Bool} {kd:Kd} {k:D→Prop}:kCellO z i o 1 false k ⟨z',es,fl,ow,kd⟩=Chk (z'=z∧i<es.length∧o+1≤z∧kd.isMap=false) (kD ((es.getD i []).getD o .junk).un) k:=by simp [kCellO]
end
theorem resD_one {d:D}:resD [d]=d:=(rfl)
theorem resD_two {d e:D} {r:List D}:resD (d::e::r)=.tu (d::e::r):=(rfl)
theorem resD_nil:resD []=.tu []:=(rfl)
def FinV (R:D→Prop) (s:S) (d v:D):Prop:=v=s.view d→FinC R s d
theorem finC_eq {R:D→Prop} {s:S} {d:D}:FinC R s d=FinV R s d (s.view d):=by simp [FinV]
section
theorem Le_refl (d:D):d.Le d:=fun _ _ _ h=>h
theorem fin_mk {s:S} {d v:D} {R:D→Prop} (h:R v):FinV R s d v:=fun e=>⟨s,_,.refl s,v,by rw [e];exact Le_refl _,h⟩
def finFO (τ:Nat) (R:D→Prop) (s:S) (d:D) (ob:Ob):Prop:=Chk (τ<s.N∧ob.flat=true∧ob.kd.isMap=false) (fun s'=>FinC R s' (d.frz τ ob)) (s.frz τ ob)
def finF (τ:Nat) (R:D→Prop) (s:S) (d:D):Prop:=kM (s.M τ) (finFO τ R s d)
def finFK (τ:Nat) (R:D→Prop) (d:D) (ob:Ob) (s':S):Prop:=FinC R s' (d.frz τ ob)
theorem finF_eq {τ:Nat} {R:D→Prop} {s:S} {d:D}:finF τ R s d=kM (s.M τ) (finFO τ R s d):=(rfl)
theorem finFO_eq {τ:Nat} {R:D→Prop} {s:S} {d:D} {z:Nat} {es:List (List D)} {f w:Bool} {kd:Kd}:finFO τ R s d ⟨z,es,f,w,kd⟩=Chk (τ<s.N∧f=true∧kd.isMap=false) (finFK τ R d ⟨z,es,f,w,kd⟩) (s.frz τ ⟨z,es,f,w,kd⟩):=(rfl)
theorem finFK_eq {τ:Nat} {R:D→Prop} {s:S} {d:D} {ob:Ob}:finFK τ R d ob s=FinV R s (d.frz τ ob) (s.view (d.frz τ ob)):=finC_eq
def fitL (s:S) (n:Nat):Nat→List (Option Ob)→Prop
  | _,[]=>True
  | k,none::r=>fitL s n (k+1) r
  | k,some ob::r=>(s.M k).map (Ob.mapc (D.trim n))=some ob∧fitL s n (k+1) r
theorem fitL_nil {s:S} {n k:Nat}:fitL s n k []=True:=(rfl)
theorem fitL_none {s:S} {n k:Nat} {r:List (Option Ob)}:fitL s n k (none::r)=fitL s n (k+1) r:=(rfl)
theorem fitL_some {s:S} {n k:Nat} {ob:Ob} {r:List (Option Ob)}:fitL s n k (some ob::r)=((s.M k).map (Ob.mapc (D.trim n))=some ob∧fitL s n (k+1) r):=(rfl)
theorem fitL_spec {s:S} {n:Nat}:∀ (l:List (Option Ob)) (k:Nat),fitL s n k l→∀ i ob,mOf l i=some ob→(s.M (k+i)).map (Ob.mapc (D.trim n))=some ob
  | [],k,_,i,ob,h=>by simp [mOf] at h
  | none::r,k,hf,i,ob,h=>by
    cases i with
    | zero=>cases h
    | succ i=>have:=fitL_spec r (k+1) hf i ob h;rw [show k+(i+1)=k+1+i by omega];exact this
  | some o::r,k,hf,i,ob,h=>by
    cases i with
    | zero=>cases h;exact hf.1
    | succ i=>have:=fitL_spec r (k+1) hf.2 i ob h;rw [show k+(i+1)=k+1+i by omega];exact this
theorem finH_mk {n0:Nat} {R:D→List (Option Ob)→Prop} {s:S} {d:D} (l:List (Option Ob)) (h0:n0≤l.length) (h1:l.length≤s.N) (h2:fitL s l.length 0 l) (h:R (d.trim l.length) l):FinH n0 R s d :=
  ⟨s, _, l, .refl s, h0, h1, fun k ob hk => by
    have h3:=fitL_spec l 0 h2 k ob hk
    have h4:k<l.length:=by
      rcases Nat.lt_or_ge k l.length with h'|h'
      · exact h'
      · simp [mOf,List.getElem?_eq_none h'] at hk
    rw [Nat.zero_add] at h3
    show (if k<l.length then (s.M k).map (Ob.mapc (D.trim l.length)) else none)=some ob
    rw [if_pos h4];exact h3,h⟩
theorem Les.refl:∀ l:List D,Les l l
  | []=>.nil
  | d::l=>.cons (Le_refl d) (Les.refl l)
section
variable {P:Program} {f:FuncId} {views raws:List D} {own:Bool} {s:S} {d:Option Nat} {K:S→Prop}
theorem CallVC.mk {R:D→Prop} (h:Spec P f views R) (hk:∀ r,R r→K (s.put d r)):CallV P f views false raws s d K :=
  fun hv ho=>.pure raws s views R (by rw [hv];exact Les.refl _) h fun r hr=>⟨by rw [← ho];simp,hk r hr⟩
theorem CallVC.eq {r:D} (h:Spec P f views (·=r)) (hk:K (s.put d r)):CallV P f views false raws s d K:=CallVC.mk h fun _ e=>e ▸ hk
theorem CallVC.mko {R:D→Prop} (h:Spec P f views R) (hk:∀ r,R r→r.plain=true∧K (s.put d r)):CallV P f views own raws s d K :=
  fun hv _=>.pure raws s views R (by rw [hv];exact Les.refl _) h fun r hr=>⟨fun _=>(hk r hr).1,(hk r hr).2⟩
theorem CallVC.eqo {r:D} (h:Spec P f views (·=r)) (hp:r.plain=true) (hk:K (s.put d r)):CallV P f views own raws s d K:=CallVC.mko h fun _ e=>e ▸ ⟨hp,hk⟩
theorem CallVC.fr {r:D} (h:SpecN P f views (·=r)) (hk:K (s.put d r)):CallV P f views own raws s d K :=
  fun hv _=>.fresh raws s views _ (by rw [hv];exact Les.refl _) h fun r hr=>hr ▸ hk
theorem CallVC.frl {views':List D} {r:D} (hl:Les views views') (h:SpecN P f views' (·=r)) (hk:K (s.put d r)):CallV P f views own raws s d K :=
  fun hv _=>.fresh raws s views' _ (by rw [← hv];exact hl) h fun r hr=>hr ▸ hk
def callFK (P:Program) (f:FuncId) (d:Option Nat) (K:S→Prop) (τ:Nat) (raws:List D) (ob:Ob) (s':S):Prop:=CallVC P f d K (raws.map fun r=>r.frz τ ob) s'
def callFO (P:Program) (f:FuncId) (d:Option Nat) (K:S→Prop) (τ:Nat) (raws:List D) (s:S) (ob:Ob):Prop:=Chk (τ<s.N∧ob.flat=true∧ob.kd.isMap=false) (callFK P f d K τ raws ob) (s.frz τ ob)
def callF (P:Program) (f:FuncId) (d:Option Nat) (K:S→Prop) (τ:Nat) (raws:List D) (s:S):Prop:=kM (s.M τ) (callFO P f d K τ raws s)
theorem callF_eq {τ:Nat}:callF P f d K τ raws s=kM (s.M τ) (callFO P f d K τ raws s):=(rfl)
theorem callFO_eq {τ z:Nat} {es:List (List D)} {fl w:Bool} {kd:Kd}:callFO P f d K τ raws s ⟨z,es,fl,w,kd⟩=Chk (τ<s.N∧fl=true∧kd.isMap=false) (callFK P f d K τ raws ⟨z,es,fl,w,kd⟩) (s.frz τ ⟨z,es,fl,w,kd⟩):=(rfl)
theorem callFK_eq {τ:Nat} {ob:Ob}:callFK P f d K τ raws ob s=kD (raws.map fun r=>r.frz τ ob) (kCallw P f d K s):=(rfl)
theorem CallVC.frz (τ:Nat) (h:callF P f d K τ raws s):CallV P f views own raws s d K:=fun _ _=>by
  unfold callF kM at h
  split at h
  · next ob hM =>
    obtain ⟨⟨h1,h2,h3⟩,hk⟩:=h
    exact .ghost raws s _ _ (.frz s τ ob h1 hM h2 h3) hk
  · exact h.elim
theorem CallVC.lend (ι:List Nat) (ds:List D) (obs:List Ob) {R:D→List (Option Ob)→Prop} (h:SpecH P f ds obs R) (hn:ι.Nodup) (hlt:∀ x,x ∈ ι→x<s.N) (hlen:ι.length=obs.length) (hd:raws=ds.map (D.ren (iotaO ι s.N)))
    (hM:∀ k ob,obs[k]?=some ob→s.M (ι.getD k 0)=some (ob.ren (iotaO ι s.N))) (hk:∀ r l,R r l→K ((s.after ι l).put d (r.ren (iotaO ι s.N)))):CallV P f views own raws s d K :=
  fun _ _=>.heap raws s ι ds obs R hn hlt hlen hd hM h hk
end
def kCallpw (P:Program) (f:FuncId) (d:Option Nat) (K:S→Prop) (s:S) (raws:List D):Prop:=CallPC P f d K raws s
section
variable {P:Program} {f:FuncId} {views views' raws:List D} {own:Bool} {s:S} {d:Option Nat} {K:S→Prop}
theorem kCallpw_eq:kCallpw P f d K s raws=CallP P f (raws.map s.view) (raws.any D.owned) raws s d K:=callP_eq
theorem CallP.mk {R:D→Prop} (h:Spec P f views R) (hk:∀ r,R r→(own=true→r.plain=true)∧K (s.put d r)):CallP P f views own raws s d K :=
  fun hv ho=>.pure raws s views R (by rw [hv];exact Les.refl _) h fun r hr=>⟨fun h=>(hk r hr).1 (ho.trans h),(hk r hr).2⟩
theorem CallP.eq {r:D} (h:Spec P f views (·=r)) (hp:own=true→r.plain=true) (hk:K (s.put d r)):CallP P f views own raws s d K:=CallP.mk h fun _ e=>e ▸ ⟨hp,hk⟩
theorem CallP.fr {r:D} (h:SpecN P f views (·=r)) (hk:K (s.put d r)):CallP P f views own raws s d K :=
  fun hv _=>.fresh raws s views _ (by rw [hv];exact Les.refl _) h fun r hr=>hr ▸ hk
theorem CallP.frl {r:D} (hl:Les views views') (h:SpecN P f views' (·=r)) (hk:K (s.put d r)):CallP P f views own raws s d K :=
  fun hv _=>.fresh raws s views' _ (by rw [← hv];exact hl) h fun r hr=>hr ▸ hk
def callPFK (P:Program) (f:FuncId) (d:Option Nat) (K:S→Prop) (τ:Nat) (raws:List D) (ob:Ob) (s':S):Prop:=CallPC P f d K (raws.map fun r=>r.frz τ ob) s'
def callPFO (P:Program) (f:FuncId) (d:Option Nat) (K:S→Prop) (τ:Nat) (raws:List D) (s:S) (ob:Ob):Prop:=Chk (τ<s.N∧ob.flat=true∧ob.kd.isMap=false) (callPFK P f d K τ raws ob) (s.frz τ ob)
def callPF (P:Program) (f:FuncId) (d:Option Nat) (K:S→Prop) (τ:Nat) (raws:List D) (s:S):Prop:=kM (s.M τ) (callPFO P f d K τ raws s)
theorem CallP.lend (ds:List D) {R:D→List (Option Ob)→Prop} (h:SpecH P f ds [] R) (hd:raws=ds.map (D.ren (iotaO [] s.N))) (hk:∀ r l,R r l→K ((s.after [] l).put d (r.ren (iotaO [] s.N)))):CallP P f views own raws s d K :=
  fun _ _=>.heap raws s ds R hd h hk
theorem callPF_eq {τ:Nat}:callPF P f d K τ raws s=kM (s.M τ) (callPFO P f d K τ raws s):=(rfl)
theorem callPFO_eq {τ z:Nat} {es:List (List D)} {fl w:Bool} {kd:Kd}:callPFO P f d K τ raws s ⟨z,es,fl,w,kd⟩=Chk (τ<s.N∧fl=true∧kd.isMap=false) (callPFK P f d K τ raws ⟨z,es,fl,w,kd⟩) (s.frz τ ⟨z,es,fl,w,kd⟩):=(rfl)
theorem callPFK_eq {τ:Nat} {ob:Ob}:callPFK P f d K τ raws ob s=kD (raws.map fun r=>r.frz τ ob) (kCallpw P f d K s):=(rfl)
theorem CallP.frz (τ:Nat) (h:callPF P f d K τ raws s):CallP P f views own raws s d K:=fun _ _=>by
  unfold callPF kM at h
  split at h
  · next ob hM =>
    obtain ⟨⟨h1,h2,h3⟩,hk⟩:=h
    exact .ghost raws s _ _ (.frz s τ ob h1 hM h2 h3) hk
  · exact h.elim
theorem CallP.flt (τ:Nat) (h:kFlt τ (fun s'=>CallPC P f d K raws s') s):CallP P f views own raws s d K:=fun _ _=>by
  unfold kFlt kM at h
  split at h
  · next ob hM =>
    obtain ⟨⟨h1,h2⟩,hk⟩:=h
    exact .ghost raws s _ _ (.flt s τ ob h1 hM h2) (by simpa using hk)
  · exact h.elim
theorem CallVC.flt (τ:Nat) (h:kFlt τ (fun s'=>CallVC P f d K raws s') s):CallV P f views own raws s d K:=fun _ _=>by
  unfold kFlt kM at h
  split at h
  · next ob hM =>
    obtain ⟨⟨h1,h2⟩,hk⟩:=h
    exact .ghost raws s _ _ (.flt s τ ob h1 hM h2) (by simpa using hk)
  · exact h.elim
def callPfl (P:Program) (f:FuncId) (d:Option Nat) (K:S→Prop) (raws:List D) (s:S):Prop:=CallPC P f d K raws s
theorem callPfl_eq:callPfl P f d K raws s=kCallpw P f d K s raws:=(rfl)
def callVfl (P:Program) (f:FuncId) (d:Option Nat) (K:S→Prop) (raws:List D) (s:S):Prop:=CallVC P f d K raws s
theorem callVfl_eq:callVfl P f d K raws s=kCallw P f d K s raws:=(rfl)
theorem CallP.fl (τ:Nat) (h:kFlt τ (callPfl P f d K raws) s):CallP P f views own raws s d K:=CallP.flt τ h
theorem CallVC.fl (τ:Nat) (h:kFlt τ (callVfl P f d K raws) s):CallV P f views own raws s d K:=CallVC.flt τ h
end
section
variable {P:Program} {asg:List Nat} {c:MC} {st:List Fr} {s:S}
theorem LoopVC.mk {X:Type} (ups:X→List (Nat × D)) (ms:X→List (Nat × Ob)) (μ:X→Nat) (Inv:X→Prop) (x0:X)
    (h0:Inv x0) (hf:Fits s (ups x0) (ms x0))
    (hr:∀ x,Inv x→vc P c (.l (loopK ups ms μ Inv s.N x)::st) (s.head asg (ups x) (ms x))):LoopVC P asg c st s :=
  ⟨s,X,ups,ms,μ,Inv,x0,.refl s,h0,hf,hr⟩
theorem LoopVC.step {s':S} {g:D→D} (hg:Gho s g s') (h:LoopVC P asg c st s'):LoopVC P asg c st s :=
  let ⟨s1,X,ups,ms,μ,Inv,x0,h1,h2⟩:=h
  ⟨s1,X,ups,ms,μ,Inv,x0,.step _ _ _ _ hg h1,h2⟩
variable {X:Type} {ups:X→List (Nat × D)} {ms:X→List (Nat × Ob)} {μ:X→Nat} {Inv:X→Prop} {n:Nat} {x:X}
theorem loopK.mk (x':X) (hn:n≤s.N) (h:Inv x') (hm:μ x'<μ x) (hf:Fits (s.trim n) (ups x') (ms x')) :
    loopK ups ms μ Inv n x s:=⟨s,.refl s,hn,x',h,hm,hf⟩
theorem loopK.step {s':S} {g:D→D} (hg:Gho s g s') (h:loopK ups ms μ Inv n x s'):loopK ups ms μ Inv n x s :=
  let ⟨s1,h1,h2⟩:=h
  ⟨s1,.step _ _ _ _ hg h1,h2⟩
-- @skip RfVC.mk
-- @skip RfVC.step
-- @skip rfK.mk
-- @skip rfK.step
-- @skip IterD.mk
theorem RfVC.mk {L:List Nat} {g:O} {ps:List Nat} {a:MC} {X:Type} (vs:List (List D)) (us:X→List (Nat × D)) (ms:X→List (Nat × Ob)) (Inv:Nat→X→Prop) (x0:X) (hit:IterD P (s.g g) vs) (hl:∀ r,r ∈ vs→r.length=ps.length) (h0:Inv 0 x0) (hf:Fits s (us x0) (ms x0)) (hu:∀ x,usOk L (us x)=true)
    (hr:∀ k x,k<vs.length→Inv k x→vc P a [.f (rfA P c (rfB P L us ms Inv s.N k st s))] ((s.rnd (us x) (ms x)).putL ps (vs.getD k []))) (he:∀ x,Inv vs.length x→rs P .nrm st (s.rnd (us x) (ms x))):RfVC P L g ps a c st s :=
  ⟨s,vs,X,us,ms,Inv,x0,.refl s,hit,hl,h0,hf,hu,hr,he⟩
theorem RfVC.step {L:List Nat} {gg:O} {ps:List Nat} {a:MC} {s':S} {g:D→D} (hg:Gho s g s') (h:RfVC P L gg ps a c st s'):RfVC P L gg ps a c st s :=
  let ⟨s1,vs,X,us,ms,Inv,x0,h1,h2⟩:=h
  ⟨s1,vs,X,us,ms,Inv,x0,.step _ _ _ _ hg h1,h2⟩
theorem IterD.mk {f:FuncId} {ds:List D} {vs:List (List D)} (h:ds.all D.cl=true) (hi:IterOk P f ds vs):IterD P (.clo f ds) vs:=⟨h,hi⟩
section
variable {InvR:Nat→X→Prop} {k:Nat}
theorem rfK.mk (x':X) (hn:n≤s.N) (h:InvR (k+1) x') (hf:Fits (s.trim n) (ups x') (ms x')):rfK ups ms InvR n k s:=⟨s,.refl s,hn,x',h,hf⟩
theorem rfK.step {s':S} {g:D→D} (hg:Gho s g s') (h:rfK ups ms InvR n k s'):rfK ups ms InvR n k s:=let ⟨s1,h1,h2⟩:=h;⟨s1,.step _ _ _ _ hg h1,h2⟩
end
theorem frz_of {τ:Nat} {K:S→Prop} (h:kFrz τ K s) : ∃ g s',Gho s g s'∧K s':=by
  unfold kFrz kM at h
  split at h
  · next ob hM =>
    obtain ⟨⟨h1,h2,h3⟩,hk⟩:=h
    exact ⟨_,_,.frz s τ ob h1 hM h2 h3,hk⟩
  · exact h.elim
theorem fold_of {σ τ i o : Nat} {fl : Bool} {K : S → Prop} (h : kFold σ τ i o fl K s) : ∃ g s', Gho s g s' ∧ K s' := by
  unfold kFold kM at h
  split at h
  · next ob hM =>
    unfold kFoldA kM at h
    split at h
    · next ob' hM' =>
      obtain ⟨⟨h1,h1',h2,h3,h4,h6,h7⟩,hk⟩:=h
      unfold kFoldC at hk
      split at hk
      · next υ sz off n hc =>
        obtain ⟨rfl,rfl,rfl,k4,k5,h5,k6⟩:=hk
        exact ⟨_,_,.fold s υ τ i o n fl ob ob' ⟨h1,h1'⟩ hM hM' h2 h3 h4 h5 h6 h7 hc k4 k5,k6⟩
      · next υ hc =>
        obtain ⟨rfl,k1,k2,k5,k6⟩:=hk
        exact ⟨_,_,.foldm s υ τ i o fl ob ob' ⟨h1,h1'⟩ hM hM' h2 h3 h4 k1 k2 h6 h7 hc k5,k6⟩
      · exact hk.elim
    · exact h.elim
  · exact h.elim
theorem flt_of {τ:Nat} {K:S→Prop} (h:kFlt τ K s) : ∃ g s',Gho s g s'∧K s':=by
  unfold kFlt kM at h
  split at h
  · next ob hM =>
    obtain ⟨⟨h1,h2⟩,hk⟩:=h
    exact ⟨_,_,.flt s τ ob h1 hM h2,hk⟩
  · exact h.elim
theorem nlo_of {τ i o z:Nat} {K:S→Prop} (h:kNlo τ i o z K s) : ∃ g s',Gho s g s'∧K s':=by
  unfold kNlo kM at h
  split at h
  · next ob hM =>
    obtain ⟨⟨h1,h2,h3,h4⟩,hk⟩:=h
    exact ⟨_,_,.nlo s τ i o z ob h1 hM h2 h3 h4,hk⟩
  · exact h.elim
-- @skip unf_of
-- @skip LoopVC.unf
-- @skip loopK.unf
-- @skip CallVC.unf
theorem unf_of {τ i o:Nat} {K:S→Prop} (h:kUnf τ i o K s) : ∃ s',Gho s (fun d=>d) s'∧K s':=by
  unfold kUnf kM at h
  split at h
  · next ob hM =>
    obtain ⟨⟨h1,h2,h3,h4⟩,hk⟩:=h
    unfold kUnfC at hk
    split at hk
    · next ow z es hc=>exact ⟨_,.unf s τ i o z ow es ob h1 hM h2 h3 h4 hc,hk⟩
    · exact hk.elim
  · exact h.elim
theorem LoopVC.unf (τ i o:Nat) (h:kUnf τ i o (LoopVC P asg c st) s):LoopVC P asg c st s:=let ⟨_,hg,hk⟩:=unf_of h;LoopVC.step hg hk
theorem loopK.unf (τ i o:Nat) (h:kUnf τ i o (loopK ups ms μ Inv n x) s):loopK ups ms μ Inv n x s:=let ⟨_,hg,hk⟩:=unf_of h;loopK.step hg hk
theorem CallVC.unf {f:FuncId} {views raws:List D} {own:Bool} {d:Option Nat} {K:S→Prop} (τ i o:Nat) (h:kUnf τ i o (callVfl P f d K raws) s):CallV P f views own raws s d K:=fun _ _=>by
  obtain ⟨s',hg,hk⟩:=unf_of h
  exact .ghost raws s _ _ hg (by rw [List.map_id'];exact hk)
-- @skip wk_of
-- @skip LoopVC.wk
-- @skip loopK.wk
-- @skip CallVC.wk
theorem wk_of {τ i o:Nat} {d':D} {K:S→Prop} (h:kWk τ i o d' K s) : ∃ s',Gho s (fun d=>d) s'∧K s':=by
  unfold kWk kM at h
  split at h
  · next ob hM =>
    obtain ⟨h0,⟨h1,h2,h3,h4,h5⟩,hk⟩:=h
    exact ⟨_,.wk s τ i o d' ob h1 hM h2 h3 h4 h0 h5,hk⟩
  · exact h.elim
theorem LoopVC.wk (τ i o:Nat) (d':D) (h:kWk τ i o d' (LoopVC P asg c st) s):LoopVC P asg c st s:=let ⟨_,hg,hk⟩:=wk_of h;LoopVC.step hg hk
theorem loopK.wk (τ i o:Nat) (d':D) (h:kWk τ i o d' (loopK ups ms μ Inv n x) s):loopK ups ms μ Inv n x s:=let ⟨_,hg,hk⟩:=wk_of h;loopK.step hg hk
theorem CallVC.wk {f:FuncId} {views raws:List D} {own:Bool} {d:Option Nat} {K:S→Prop} (τ i o:Nat) (d':D) (h:kWk τ i o d' (callVfl P f d K raws) s):CallV P f views own raws s d K:=fun _ _=>by
  obtain ⟨s',hg,hk⟩:=wk_of h
  exact .ghost raws s _ _ hg (by rw [List.map_id'];exact hk)
theorem emp_of {t z:Nat} {K:S→Prop} (h:kEmp t z K s) : ∃ g s',Gho s g s'∧K s':=by
  unfold kEmp kEmpD at h
  split at h
  · next e=>exact ⟨_,_,.emp s t z e,h⟩
  · exact h.elim
theorem LoopVC.emp (t z:Nat) (h:kEmp t z (LoopVC P asg c st) s):LoopVC P asg c st s:=let ⟨_,_,hg,hk⟩:=emp_of h;LoopVC.step hg hk
theorem loopK.emp (t z:Nat) (h:kEmp t z (loopK ups ms μ Inv n x) s):loopK ups ms μ Inv n x s:=let ⟨_,_,hg,hk⟩:=emp_of h;loopK.step hg hk
-- @skip stay_of
-- @skip LoopVC.stay
-- @skip loopK.stay
-- @skip CallVC.stay
theorem stay_of {τ:Nat} {K:S→Prop} (h:kStay τ K s) : ∃ s',Gho s (fun d=>d) s'∧K s':=by
  unfold kStay kM at h
  split at h
  · next ob hM =>
    obtain ⟨⟨h1,h2,h3⟩,hk⟩:=h
    exact ⟨_,.stay s τ ob h1 hM h2 h3,hk⟩
  · exact h.elim
theorem LoopVC.stay (τ:Nat) (h:kStay τ (LoopVC P asg c st) s):LoopVC P asg c st s:=let ⟨_,hg,hk⟩:=stay_of h;LoopVC.step hg hk
theorem loopK.stay (τ:Nat) (h:kStay τ (loopK ups ms μ Inv n x) s):loopK ups ms μ Inv n x s:=let ⟨_,hg,hk⟩:=stay_of h;loopK.step hg hk
theorem CallVC.stay {f:FuncId} {views raws:List D} {own:Bool} {d:Option Nat} {K:S→Prop} (τ:Nat) (h:kStay τ (callVfl P f d K raws) s):CallV P f views own raws s d K:=fun _ _=>by
  obtain ⟨s',hg,hk⟩:=stay_of h
  exact .ghost raws s _ _ hg (by rw [List.map_id'];exact hk)
theorem LoopVC.flt (τ:Nat) (h:kFlt τ (LoopVC P asg c st) s):LoopVC P asg c st s:=let ⟨_,_,hg,hk⟩:=flt_of h;LoopVC.step hg hk
theorem LoopVC.nlo (τ i o z:Nat) (h:kNlo τ i o z (LoopVC P asg c st) s):LoopVC P asg c st s:=let ⟨_,_,hg,hk⟩:=nlo_of h;LoopVC.step hg hk
theorem loopK.flt (τ:Nat) (h:kFlt τ (loopK ups ms μ Inv n x) s):loopK ups ms μ Inv n x s:=let ⟨_,_,hg,hk⟩:=flt_of h;loopK.step hg hk
theorem loopK.nlo (τ i o z:Nat) (h:kNlo τ i o z (loopK ups ms μ Inv n x) s):loopK ups ms μ Inv n x s:=let ⟨_,_,hg,hk⟩:=nlo_of h;loopK.step hg hk
theorem swap_of {σ τ:Nat} {K:S→Prop} (h:kSwap σ τ K s) : ∃ g s',Gho s g s'∧K s':=let ⟨⟨h1,h2,h3,h4⟩,hk⟩:=h;⟨_,_,.swap s σ τ ⟨h1,h2⟩ h3 h4,hk⟩
theorem LoopVC.swap (σ τ:Nat) (h:kSwap σ τ (LoopVC P asg c st) s):LoopVC P asg c st s:=let ⟨_,_,hg,hk⟩:=swap_of h;LoopVC.step hg hk
theorem loopK.swap (σ τ:Nat) (h:kSwap σ τ (loopK ups ms μ Inv n x) s):loopK ups ms μ Inv n x s:=let ⟨_,_,hg,hk⟩:=swap_of h;loopK.step hg hk
-- @skip RfVC.frz
-- @skip rfK.frz
theorem RfVC.frz {L:List Nat} {gg:O} {ps:List Nat} {a:MC} (τ:Nat) (h:kFrz τ (RfVC P L gg ps a c st) s):RfVC P L gg ps a c st s:=let ⟨_,_,hg,hk⟩:=frz_of h;RfVC.step hg hk
theorem rfK.frz {InvR:Nat→X→Prop} {k:Nat} (τ:Nat) (h:kFrz τ (rfK ups ms InvR n k) s):rfK ups ms InvR n k s:=let ⟨_,_,hg,hk⟩:=frz_of h;rfK.step hg hk
-- @skip RfVC.fold
-- @skip rfK.fold
theorem RfVC.fold {L:List Nat} {gg:O} {ps:List Nat} {a:MC} (σ τ i o:Nat) (fl:Bool) (h:kFold σ τ i o fl (RfVC P L gg ps a c st) s):RfVC P L gg ps a c st s:=let ⟨_,_,hg,hk⟩:=fold_of h;RfVC.step hg hk
theorem rfK.fold {InvR:Nat→X→Prop} {k:Nat} (σ τ i o:Nat) (fl:Bool) (h:kFold σ τ i o fl (rfK ups ms InvR n k) s):rfK ups ms InvR n k s:=let ⟨_,_,hg,hk⟩:=fold_of h;rfK.step hg hk
-- @skip RfVC.flt
-- @skip rfK.flt
theorem RfVC.flt {L:List Nat} {gg:O} {ps:List Nat} {a:MC} (τ:Nat) (h:kFlt τ (RfVC P L gg ps a c st) s):RfVC P L gg ps a c st s:=let ⟨_,_,hg,hk⟩:=flt_of h;RfVC.step hg hk
theorem rfK.flt {InvR:Nat→X→Prop} {k:Nat} (τ:Nat) (h:kFlt τ (rfK ups ms InvR n k) s):rfK ups ms InvR n k s:=let ⟨_,_,hg,hk⟩:=flt_of h;rfK.step hg hk
-- @skip RfVC.swap
-- @skip rfK.swap
theorem RfVC.swap {L:List Nat} {gg:O} {ps:List Nat} {a:MC} (σ τ:Nat) (h:kSwap σ τ (RfVC P L gg ps a c st) s):RfVC P L gg ps a c st s:=let ⟨_,_,hg,hk⟩:=swap_of h;RfVC.step hg hk
theorem rfK.swap {InvR:Nat→X→Prop} {k:Nat} (σ τ:Nat) (h:kSwap σ τ (rfK ups ms InvR n k) s):rfK ups ms InvR n k s:=let ⟨_,_,hg,hk⟩:=swap_of h;rfK.step hg hk
-- @skip RfVC.nlo
-- @skip rfK.nlo
theorem RfVC.nlo {L:List Nat} {gg:O} {ps:List Nat} {a:MC} (τ i o z:Nat) (h:kNlo τ i o z (RfVC P L gg ps a c st) s):RfVC P L gg ps a c st s:=let ⟨_,_,hg,hk⟩:=nlo_of h;RfVC.step hg hk
theorem rfK.nlo {InvR:Nat→X→Prop} {k:Nat} (τ i o z:Nat) (h:kNlo τ i o z (rfK ups ms InvR n k) s):rfK ups ms InvR n k s:=let ⟨_,_,hg,hk⟩:=nlo_of h;rfK.step hg hk
-- @skip RfVC.emp
-- @skip rfK.emp
theorem RfVC.emp {L:List Nat} {gg:O} {ps:List Nat} {a:MC} (t z:Nat) (h:kEmp t z (RfVC P L gg ps a c st) s):RfVC P L gg ps a c st s:=let ⟨_,_,hg,hk⟩:=emp_of h;RfVC.step hg hk
theorem rfK.emp {InvR:Nat→X→Prop} {k:Nat} (t z:Nat) (h:kEmp t z (rfK ups ms InvR n k) s):rfK ups ms InvR n k s:=let ⟨_,_,hg,hk⟩:=emp_of h;rfK.step hg hk
theorem cutK.mk (x':X) (hn:n≤s.N) (h:Inv x') (hf:Fits (s.trim n) (ups x') (ms x')):cutK ups ms Inv n s:=⟨s,.refl s,hn,x',h,hf⟩
theorem cutK.step {s':S} {g:D→D} (hg:Gho s g s') (h:cutK ups ms Inv n s'):cutK ups ms Inv n s:=let ⟨s1,h1,h2⟩:=h;⟨s1,.step _ _ _ _ hg h1,h2⟩
theorem cutK.frz (τ:Nat) (h:kFrz τ (cutK ups ms Inv n) s):cutK ups ms Inv n s:=let ⟨_,_,hg,hk⟩:=frz_of h;cutK.step hg hk
theorem cutK.fold (σ τ i o:Nat) (fl:Bool) (h:kFold σ τ i o fl (cutK ups ms Inv n) s):cutK ups ms Inv n s:=let ⟨_,_,hg,hk⟩:=fold_of h;cutK.step hg hk
theorem cutK.flt (τ:Nat) (h:kFlt τ (cutK ups ms Inv n) s):cutK ups ms Inv n s:=let ⟨_,_,hg,hk⟩:=flt_of h;cutK.step hg hk
theorem cutK.swap (σ τ:Nat) (h:kSwap σ τ (cutK ups ms Inv n) s):cutK ups ms Inv n s:=let ⟨_,_,hg,hk⟩:=swap_of h;cutK.step hg hk
theorem cutK.nlo (τ i o z:Nat) (h:kNlo τ i o z (cutK ups ms Inv n) s):cutK ups ms Inv n s:=let ⟨_,_,hg,hk⟩:=nlo_of h;cutK.step hg hk
theorem DrawVC.t {t u:DT} {K:S→Prop} (h:vcT P t K s):DrawVC P asg t u K s:=.inl h
theorem DrawVC.u {t u:DT} {K:S→Prop} (h:vcT P u K s):DrawVC P asg t u K s:=.inr (.inl h)
theorem DrawVC.ct {t u:DT} {K:S→Prop} {X:Type} (ups:X→List (Nat × D)) (ms:X→List (Nat × Ob)) (Inv:X→Prop) (n:Nat) (hn:s.N≤n) (h:vcT P t (cutK ups ms Inv n) s) (hr:∀ x,Inv x→K ((s.head asg (ups x) (ms x)).setN n)):DrawVC P asg t u K s :=
  .inr (.inr (.inl ⟨s,X,ups,ms,Inv,n,.refl s,hn,h,hr⟩))
theorem DrawVC.cu {t u:DT} {K:S→Prop} {X:Type} (ups:X→List (Nat × D)) (ms:X→List (Nat × Ob)) (Inv:X→Prop) (n:Nat) (hn:s.N≤n) (h:vcT P u (cutK ups ms Inv n) s) (hr:∀ x,Inv x→K ((s.head asg (ups x) (ms x)).setN n)):DrawVC P asg t u K s :=
  .inr (.inr (.inr ⟨s,X,ups,ms,Inv,n,.refl s,hn,h,hr⟩))
theorem GhoV.go {K:S→Prop} (h:K s):GhoV K s:=⟨s,.refl s,h⟩
theorem GhoV.step {K:S→Prop} {s':S} {g:D→D} (hg:Gho s g s') (h:GhoV K s'):GhoV K s:=let ⟨s1,h1,h2⟩:=h;⟨s1,.step _ _ _ _ hg h1,h2⟩
theorem GhoV.frz {K:S→Prop} (τ:Nat) (h:kFrz τ (GhoV K) s):GhoV K s:=let ⟨_,_,hg,hk⟩:=frz_of h;GhoV.step hg hk
theorem GhoV.fold {K:S→Prop} (σ τ i o:Nat) (fl:Bool) (h:kFold σ τ i o fl (GhoV K) s):GhoV K s:=let ⟨_,_,hg,hk⟩:=fold_of h;GhoV.step hg hk
theorem GhoV.flt {K:S→Prop} (τ:Nat) (h:kFlt τ (GhoV K) s):GhoV K s:=let ⟨_,_,hg,hk⟩:=flt_of h;GhoV.step hg hk
theorem LoopVC.frz (τ:Nat) (h:kFrz τ (LoopVC P asg c st) s):LoopVC P asg c st s:=let ⟨_,_,hg,hk⟩:=frz_of h;LoopVC.step hg hk
theorem LoopVC.fold (σ τ i o:Nat) (fl:Bool) (h:kFold σ τ i o fl (LoopVC P asg c st) s):LoopVC P asg c st s:=let ⟨_,_,hg,hk⟩:=fold_of h;LoopVC.step hg hk
theorem loopK.frz (τ:Nat) (h:kFrz τ (loopK ups ms μ Inv n x) s):loopK ups ms μ Inv n x s:=let ⟨_,_,hg,hk⟩:=frz_of h;loopK.step hg hk
theorem loopK.fold (σ τ i o:Nat) (fl:Bool) (h:kFold σ τ i o fl (loopK ups ms μ Inv n x) s):loopK ups ms μ Inv n x s:=let ⟨_,_,hg,hk⟩:=fold_of h;loopK.step hg hk
end
section
variable {σ τ i o:Nat} {fl:Bool} {K:S→Prop} {s:S} {z z':Nat} {es es':List (List D)} {f f' w w':Bool} {kd kd':Kd}
theorem kStay_eq:kStay τ K s=kM (s.M τ) (kStayO τ K s):=(rfl)
theorem kStayO_eq:kStayO τ K s ⟨z,es,f,w,kd⟩=Chk (τ<s.N∧0<es.length∧kd.isMap=false) K (s.setM τ ⟨z,es,f,w,.fix⟩):=(rfl)
theorem kFlt_eq:kFlt τ K s=kM (s.M τ) (kFltO τ K s):=(rfl)
theorem kFltO_eq:kFltO τ K s ⟨z,es,f,w,kd⟩=Chk (τ<s.N∧es.all (fun e=>e.all D.clo')=true) K (s.setM τ ⟨z,es,true,w,kd⟩):=(rfl)
theorem kEmp_eq {t:Nat}:kEmp t z K s=kEmpD t z K s (s.ρ t):=(rfl)
theorem kEmpD_nl {t:Nat}:kEmpD t z K s .nl=K (s.newt (some t) ⟨z,[],true,false,.arr⟩ fun τ=>.ref τ z 0 0):=(rfl)
theorem kUnf_eq:kUnf τ i o K s=kM (s.M τ) (kUnfO τ i o K s):=(rfl)
theorem kUnfO_eq:kUnfO τ i o K s ⟨z,es,f,w,kd⟩=ChkD (τ<s.N∧kd.isMap=false∧i<es.length∧o<z) ((es.getD i []).getD o .junk) (kUnfC τ i o K s ⟨z,es,f,w,kd⟩):=(rfl)
theorem kUnfC_own {ow:Bool} {y:Nat} {ys:List (List D)} {ob:Ob}:kUnfC τ i o K s ob (.own ow y ys)=K (s.unfold τ i o ob ow y ys):=(rfl)
theorem kWk_eq {d':D}:kWk τ i o d' K s=kM (s.M τ) (kWkO τ i o d' K s):=(rfl)
theorem kWkO_eq {d':D}:kWkO τ i o d' K s ⟨z,es,f,w,kd⟩=((((es.getD i []).getD o .junk).Le d')∧Chk (τ<s.N∧i<es.length∧o<z∧((es.getD i []).getD o .junk).cl=true∧d'.isOwn=false) K (s.setM τ ⟨z,es.set i ((es.getD i []).set o d'),f,w,kd⟩)):=(rfl)
theorem kNlo_eq:kNlo τ i o z K s=kM (s.M τ) (kNloO τ i o z K s):=(rfl)
theorem kNloO_eq:kNloO τ i o z' K s ⟨z,es,f,w,kd⟩=Chk (τ<s.N∧i<es.length∧o<z∧(es.getD i []).getD o .junk=.nl) K (s.setM τ ⟨z,es.set i ((es.getD i []).set o (.own false z' [])),f,true,kd⟩):=(rfl)
theorem kSwap_eq:kSwap σ τ K s=Chk (σ<s.N∧τ<s.N∧arrO (s.M σ)=true∧arrO (s.M τ)=true) K (s.swap σ τ):=(rfl)
theorem kFrz_eq:kFrz τ K s=kM (s.M τ) (kFrzO τ K s):=(rfl)
theorem kFrzO_eq:kFrzO τ K s ⟨z,es,f,w,kd⟩=Chk (τ<s.N∧f=true∧kd.isMap=false) K (s.frz τ ⟨z,es,f,w,kd⟩):=(rfl)
theorem kFold_eq:kFold σ τ i o fl K s=kM (s.M τ) (kFoldA σ τ i o fl K s):=(rfl)
theorem kFoldA_eq {ob:Ob}:kFoldA σ τ i o fl K s ob=kM (s.M σ) (kFoldB σ τ i o fl K s ob):=(rfl)
theorem kFoldB_eq:kFoldB σ τ i o fl K s ⟨z,es,f,w,kd⟩ ⟨z',es',f',w',kd'⟩ =
  ChkD (σ<s.N∧τ<s.N∧σ ≠ τ∧f'=true∧kd.isMap=false∧i<es.length∧o<z) ((es.getD i []).getD o .junk) (kFoldC σ τ i o fl K s ⟨z,es,f,w,kd⟩ ⟨z',es',f',w',kd'⟩):=(rfl)
theorem kFoldC_ref {υ sz off n:Nat}:kFoldC σ τ i o true K s ⟨z,es,f,w,kd⟩ ⟨z',es',f',w',kd'⟩ (.ref υ sz off n) =
  Chk (υ=σ∧sz=z'∧off=0∧n≤es'.length∧(es.set i ((es.getD i []).set o (.own w' z' (es'.take n)))).all (fun e=>e.all D.clo')=true∧kd'.isMap=false) K (s.fold σ τ i o true ⟨z,es,f,w,kd⟩ (.own w' z' (es'.take n))):=by
  simp [kFoldC,Chk,and_assoc]
theorem kFoldC_mp {υ:Nat}:kFoldC σ τ i o true K s ⟨z,es,f,w,kd⟩ ⟨z',es',f',w',kd'⟩ (.mp υ) =
  Chk (υ=σ∧kd'.isMap=true∧w'=false∧(es.set i ((es.getD i []).set o (.omp kd' z' es'))).all (fun e=>e.all D.clo')=true) K (s.fold σ τ i o true ⟨z,es,f,w,kd⟩ (.omp kd' z' es')):=by
  simp [kFoldC,Chk,and_assoc]
theorem kFoldC_mpf {υ:Nat}:kFoldC σ τ i o false K s ⟨z,es,f,w,kd⟩ ⟨z',es',f',w',kd'⟩ (.mp υ) =
  Chk (υ=σ∧kd'.isMap=true∧w'=false) K (s.fold σ τ i o false ⟨z,es,f,w,kd⟩ (.omp kd' z' es')):=by
  simp [kFoldC,Chk,and_assoc]
theorem kFoldC_reff {υ sz off n:Nat}:kFoldC σ τ i o false K s ⟨z,es,f,w,kd⟩ ⟨z',es',f',w',kd'⟩ (.ref υ sz off n) =
  Chk (υ=σ∧sz=z'∧off=0∧n≤es'.length∧kd'.isMap=false) K (s.fold σ τ i o false ⟨z,es,f,w,kd⟩ (.own w' z' (es'.take n))):=by
  simp [kFoldC,Chk,and_assoc]
end
theorem Fits.mk {s:S} {ups:List (Nat × D)} {ms:List (Nat × Ob)} (h:∀ p,p ∈ ups→s.ρ p.1=p.2) (k:∀ p,p ∈ ms→s.M p.1=some p.2):Fits s ups ms:=⟨h,k⟩
end
theorem Fits_nil {s:S}:Fits s [] []=True:=by simp [Fits]
theorem Fits_u {s:S} {t:Nat} {d:D} {r:List (Nat × D)} {ms:List (Nat × Ob)}:Fits s ((t,d)::r) ms=(s.ρ t=d∧Fits s r ms):=by simp [Fits,and_assoc]
theorem Fits_m {s:S} {t:Nat} {ob:Ob} {ms:List (Nat × Ob)}:Fits s [] ((t,ob)::ms)=(s.M t=some ob∧Fits s [] ms):=by simp [Fits]
-- @skip CallP.lend
-- @skip CallVC.fr
-- @skip CallVC.frl
-- @skip CallP.fr
-- @skip CallP.frl
-- @skip swap_of
-- @skip LoopVC.swap
-- @skip loopK.swap
-- @skip cutK.mk
-- @skip cutK.step
-- @skip cutK.frz
-- @skip cutK.fold
-- @skip cutK.flt
-- @skip cutK.swap
-- @skip cutK.nlo
-- @skip DrawVC.t
-- @skip DrawVC.u
-- @skip DrawVC.ct
-- @skip DrawVC.cu
-- @skip AltVC.mk
-- @skip CallP.frz
-- @skip CallP.flt
-- @skip CallVC.flt
-- @skip CallP.fl
-- @skip CallVC.fl
-- @skip callP_eq
-- @skip BrK.mk
-- @skip BrE.mk
-- @skip kBlaS_n
def va0:=And.intro @vc_skip (And.intro @vc_reg (And.intro @vc_dreg (And.intro @vcT_done (And.intro @vcT_op (And.intro @vcT_alt (And.intro @vc_seq (And.intro @vc_cond (And.intro @vc_blk (And.intro @vc_loop (And.intro @vc_rf (And.intro @rfA_n (And.intro @jmpD_t (And.intro @jmpD_f (And.intro @rfB_n (And.intro @rfB_e (And.intro @rfB_r (And.intro @putL_nil (And.intro @putL_cons (And.intro @vc_exit (And.intro @vc_bad (And.intro @vc_ret (And.intro @rs_f (And.intro @rs_sn (And.intro @rs_se (And.intro @rs_sr (And.intro @rs_bn (And.intro @rs_be (And.intro @rs_br (And.intro @rs_ln (And.intro @rs_le (And.intro @rs_lr (And.intro @vcOps_nil (And.intro @vcOps_cons (And.intro @vcOps_gd (And.intro @putK_eq (And.intro @putS_eq (And.intro @skipK_eq (And.intro @kBld_nil (@kBld_cons)))))))))))))))))))))))))))))))))))))))
def va1:=And.intro @kBla_nil (And.intro @kBla_cons (And.intro @newt_eq (And.intro @finQ_nrm (And.intro @finQ_ret (And.intro @finH_nrm (And.intro @finH_ret (And.intro @kRes_nil (And.intro @kRes_t (And.intro @kRes_cell (And.intro @resN_eq (And.intro @kRefN_eq (And.intro @kMpN_eq (And.intro @g_t (And.intro @g_k (And.intro @g_nl (And.intro @g_f (And.intro @vcI_mov (And.intro @vcI_pick (And.intro @vcI_len (And.intro @vcI_idx (And.intro @vcI_idxa (And.intro @vcI_idxv (And.intro @vcI_fld (And.intro @vcI_ld1 (And.intro @vcI_ldn (And.intro @vcI_bin (And.intro @vcI_appz (And.intro @vcI_isnil (And.intro @vcI_cap (And.intro @vcI_eqb (And.intro @vcI_not (And.intro @vcI_neg (And.intro @vcI_cvi (And.intro @vcI_ext (And.intro @vcI_getf (And.intro @vcI_sub (And.intro @vcI_mkf (And.intro @vcI_min (@vcI_max)))))))))))))))))))))))))))))))))))))))
def va2:=And.intro @vcI_bld (And.intro @vcI_nil (And.intro @vcI_new (And.intro @vcI_box (And.intro @vcI_mk (And.intro @vcI_bsl (And.intro @vcI_st1 (And.intro @vcI_stn (And.intro @vcI_app (And.intro @vcI_call (And.intro @vcI_callv (And.intro @vcI_callp (And.intro @vcI_mmk (And.intro @vcI_sla (And.intro @vcI_cpy (And.intro @vcI_rng (And.intro @vcI_nxt (And.intro @vcI_ent (And.intro @vcI_mlen (And.intro @vcI_mlk (And.intro @vcI_mup (And.intro @vcI_men (And.intro @vcI_mes (And.intro @vcI_eqs (And.intro @vcI_bla (And.intro @vcI_nck (And.intro @vcI_bad (And.intro @put_ρ (And.intro @put_M (And.intro @put_N (And.intro @setM_ρ (And.intro @setM_M (And.intro @setM_N (And.intro @setN_ρ (And.intro @setN_M (And.intro @setN_N (And.intro @kill_ρ (And.intro @kill_M (And.intro @kill_N (@trim_ρ)))))))))))))))))))))))))))))))))))))))
def va3:=And.intro @trim_M (And.intro @trim_N (And.intro @head_ρ (And.intro @head_M (And.intro @head_N (And.intro @init_ρ (And.intro @init_M (And.intro @init_N (And.intro @initH_ρ (And.intro @initH_M (And.intro @initH_N (And.intro @unfold_ρ (And.intro @unfold_M (And.intro @unfold_N (And.intro @unfoldM_ρ (And.intro @unfoldM_M (And.intro @unfoldM_N (And.intro @frz_ρ (And.intro @frz_M (And.intro @frz_N (And.intro @fold_ρ (And.intro @fold_M (And.intro @fold_N (And.intro @after_ρ (And.intro @after_M (And.intro @after_N (And.intro @swap_ρ (And.intro @swap_M (And.intro @swap_N (And.intro @rnd_ρ (And.intro @rnd_M (And.intro @rnd_N (And.intro @jmp_ρ (And.intro @jmp_M (And.intro @jmp_N (@put_none)))))))))))))))))))))))))))))))))))
def vb0:=And.intro @isMp_map (And.intro @vw_own (And.intro @vw_omp (And.intro @Br_true (And.intro @Br_false (And.intro @Br_not (And.intro @Br_bne (And.intro @Chk_ok (And.intro @kM_some (And.intro @kD_eq (And.intro @ChkD_ok (And.intro @kPick_v (And.intro @kLen_sl (And.intro @kLen_ref (And.intro @kLen_nl (And.intro @kIdx_sl (And.intro @kIdx_ref (And.intro @kIdxa_ip (And.intro @kIdxa_ptr (And.intro @kIdxv_ag (And.intro @kFld_ip (And.intro @kFld_ptr (And.intro @kOwn_own (And.intro @kOwn_omp (And.intro @kOwn_v (And.intro @kOwn_nl (And.intro @kOwn_sl (And.intro @kOwn_ip (And.intro @kOwn_ref (And.intro @kOwn_ptr (And.intro @kOwn_mp (And.intro @kOwn_clo (And.intro @kOwn_junk (And.intro @kLdO_eq (And.intro @kLd_ip (And.intro @kLd_ptr (And.intro @kLdnO_eq (And.intro @kLdn_ip (And.intro @kLdn_ptr (@kBin_add)))))))))))))))))))))))))))))))))))))))
def vb1:=And.intro @kBin_sub (And.intro @kBin_mul (And.intro @kBin_quo (And.intro @kBin_rem (And.intro @kBin_and (And.intro @kBin_or (And.intro @kBin_xor (And.intro @kBin_andNot (And.intro @kBin_shl (And.intro @kBin_shr (And.intro @kBin_eql (And.intro @kBin_neq (And.intro @kBin_lss (And.intro @kBin_leq (And.intro @kBin_gtr (And.intro @kBin_geq (And.intro @kEqb_eq (And.intro @kEqb_ne (And.intro @kIsnil_nl (And.intro @kIsnil_sl (And.intro @kIsnil_ref (And.intro @kCap_nl (And.intro @kNot_v (And.intro @kNeg_v (And.intro @kCvi_v (And.intro @kExt_tu (And.intro @kGetf_ag (And.intro @kSub_sl (And.intro @kSub_ref (And.intro @kSub_nl (And.intro @lenDD_sl (And.intro @lenDD_ref (And.intro @lenDD_nl (And.intro @kMin_min (And.intro @kMin_max (And.intro @kLdw_ip (And.intro @kLdw_ptr (And.intro @kLdwO_f (And.intro @kLdwO_t (@kLdx_eq)))))))))))))))))))))))))))))))))))))))
def vb2:=And.intro @appO_flat (And.intro @appO_open1 (And.intro @appO_open2 (And.intro @kAppO_eq (And.intro @kAppO.two (And.intro @kApp_nl (And.intro @kApp_ref (And.intro @kApp_nn (And.intro @kApp_rn (And.intro @src_sl (And.intro @src_nl (And.intro @src_ref (And.intro @kMk_v (And.intro @kAppz_nl (And.intro @kStO_eq (And.intro @kSt_ptr (And.intro @kStnO_eq (And.intro @kStn_ptr (And.intro @kSlaO_eq (And.intro @kSla_ptr (And.intro @kCpyP_eq (And.intro @kCpyO_eq (And.intro @kCpyO_1 (And.intro @kCpyT_eq (And.intro @kCpyW_eq (And.intro @kCpy_sl (And.intro @kCpy_rr (And.intro @kdB_eq (And.intro @keyP_nil (And.intro @keyP_i64 (And.intro @keyP_u8 (And.intro @keyP_u32 (And.intro @keyP_u64 (And.intro @Agr_nil (And.intro @Agr_v (And.intro @kVc_t (And.intro @kVc_f (And.intro @mkvD_t (And.intro @mkvD_f (@mokD_t)))))))))))))))))))))))))))))))))))))))
def vb3:=And.intro @mokD_f (And.intro @mlkF_eq (And.intro @kMlkK_eq (And.intro @kMlkO_eq (And.intro @kMlk_mp (And.intro @kMlenO_eq (And.intro @kMlen_mp (And.intro @kRngO_eq (And.intro @kRng_mp (And.intro @mupF_eq (And.intro @mupG_eq (And.intro @kMupV_eq (And.intro @kMupK_eq (And.intro @kMupO_eq (And.intro @kMup_mp (And.intro @menF_eq (And.intro @menG_eq (And.intro @kMenK_eq (And.intro @kMenO_eq (And.intro @kMen_mp (And.intro @kMesV_eq (And.intro @kMesO_eq (And.intro @kMes_mp (And.intro @kEqs_ag (And.intro @kNck_ip (And.intro @kNck_ptr (And.intro @kNck_clo (And.intro @kGd_u (And.intro @kGd_t (And.intro @kGd_f (And.intro @kCond_v (And.intro @u8s_len (And.intro @i64s_len (And.intro @bls_len (And.intro @rows_len (And.intro @u8s_get (And.intro @i64s_get (And.intro @bls_get (And.intro @rows_get (@i64s_set)))))))))))))))))))))))))))))))))))))))
def vb4:=And.intro @bls_set (And.intro @i64s_rep (And.intro @bls_rep (And.intro @i64s_app (And.intro @u8s_app (And.intro @i64s_app2 (And.intro @bls_app (And.intro @u8s_take (And.intro @i64s_take (And.intro @bls_take (And.intro @u8s_drop (And.intro @i64s_drop (And.intro @bls_drop (And.intro @wrap64_id (And.intro @wrapu8_id (And.intro @wrapu32_id (And.intro @wrapu64_id (And.intro @wrapi32_id (And.intro @ChkD_true (And.intro @Chk_true (And.intro @tmod_nn (And.intro @tdiv_nn (And.intro @headD_some (And.intro @headD_t (And.intro @headD_f (And.intro @foldRows_t (And.intro @foldRows_f (And.intro @afterM_some (And.intro @afterM_none (And.intro @swp_eq (And.intro @arrO_some (And.intro @posn_nil (And.intro @posn_cons (And.intro @iotaO_eq (And.intro @mOf_nil (And.intro @mOf_zero (And.intro @mOf_succ (And.intro @mAll_nil (And.intro @mAll_zero (@mAll_succ)))))))))))))))))))))))))))))))))))))))
def vb5:=And.intro @look_nil (And.intro @look_cons (And.intro @isFix_some (And.intro @isFix_none (And.intro @isArr_arr (And.intro @isArr_fix (And.intro @isArr_map (And.intro @isMap_arr (And.intro @isMap_fix (And.intro @isMap_map (And.intro @kd_ref (And.intro @kd_ptr (And.intro @mapc_t (And.intro @mapc_f (And.intro @ren_t (And.intro @ren_f (And.intro @kill_v (And.intro @kill_nl (And.intro @kill_sl (And.intro @kill_ip (And.intro @kill_junk (And.intro @kill_ref (And.intro @kill_ptr (And.intro @kill_mp (And.intro @kill_oo (And.intro @kill_om (And.intro @kill_ag (And.intro @kill_tu (And.intro @kill_clo (And.intro @trim_v (And.intro @trim_nl (And.intro @trim_sl (And.intro @trim_ip (And.intro @trim_junk (And.intro @trim_ref (And.intro @trim_ptr (And.intro @trim_mp (And.intro @trim_oo (And.intro @trim_om (@trim_ag)))))))))))))))))))))))))))))))))))))))
def vb6:=And.intro @trim_tu (And.intro @trim_clo (And.intro @frz_v (And.intro @frz_nl (And.intro @frz_sl (And.intro @frz_ip (And.intro @frz_junk (And.intro @frz_ref (And.intro @frz_ptr (And.intro @frz_mp (And.intro @frz_oo (And.intro @frz_om (And.intro @frz_ag (And.intro @frz_tu (And.intro @frz_clo (And.intro @ren_v (And.intro @ren_nl (And.intro @ren_sl (And.intro @ren_ip (And.intro @ren_junk (And.intro @ren_ref (And.intro @ren_ptr (And.intro @ren_mp (And.intro @ren_oo (And.intro @ren_om (And.intro @ren_ag (And.intro @ren_tu (And.intro @ren_clo (And.intro @keep_v (And.intro @keep_nl (And.intro @keep_sl (And.intro @keep_ip (And.intro @keep_junk (And.intro @keep_ref (And.intro @keep_ptr (And.intro @keep_mp (And.intro @keep_oo (And.intro @keep_om (And.intro @keep_ag (@keep_tu)))))))))))))))))))))))))))))))))))))))
def vb7:=And.intro @keep_clo (And.intro @lent_v (And.intro @lent_nl (And.intro @lent_sl (And.intro @lent_ip (And.intro @lent_junk (And.intro @lent_ref (And.intro @lent_ptr (And.intro @lent_mp (And.intro @lent_oo (And.intro @lent_om (And.intro @lent_ag (And.intro @lent_tu (And.intro @lent_clo (And.intro @view_v (And.intro @view_nl (And.intro @view_sl (And.intro @view_ip (And.intro @view_junk (And.intro @view_ref (And.intro @view_ptr (And.intro @view_mp (And.intro @view_oo (And.intro @view_om (And.intro @view_ag (And.intro @view_tu (And.intro @view_clo (And.intro @owned_v (And.intro @owned_nl (And.intro @owned_sl (And.intro @owned_ip (And.intro @owned_junk (And.intro @owned_ref (And.intro @owned_ptr (And.intro @owned_mp (And.intro @owned_ag (And.intro @owned_tu (And.intro @owned_clo (And.intro @cl_v (@cl_nl)))))))))))))))))))))))))))))))))))))))
def vb8:=And.intro @cl_sl (And.intro @cl_ip (And.intro @cl_junk (And.intro @cl_ref (And.intro @cl_ptr (And.intro @cl_mp (And.intro @isOwn_sl (And.intro @isOwn_v (And.intro @cl_own (And.intro @cl_omp (And.intro @cl_clo (And.intro @plain_v (And.intro @plain_ag (And.intro @plain_tu (And.intro @clo'_own (And.intro @clo'_omp (And.intro @clo'_v (And.intro @clo'_nl (And.intro @clo'_sl (And.intro @un_v (And.intro @un_nl (And.intro @un_sl (And.intro @un_ip (And.intro @un_ref (And.intro @un_ptr (And.intro @un_mp (And.intro @un_clo (And.intro @un_junk (And.intro @un_own (And.intro @un_omp (And.intro @splice_eq (And.intro @cast0 (And.intro @castS (And.intro @cast1 (And.intro @nsub_self (And.intro @append_nil' (And.intro @one_int (And.intro @one_bool (And.intro @one_map (@one_pointer)))))))))))))))))))))))))))))))))))))))
def vb9:=And.intro @one_nilFunc (And.intro @one_nl (And.intro @one_sl (And.intro @one_ip (And.intro @one_ref (And.intro @one_ptr (And.intro @one_mp (And.intro @one_clo (And.intro @cells_ag (And.intro @cells_v (And.intro @cells_nl (And.intro @cells_sl (And.intro @cells_ip (And.intro @cells_ref (And.intro @cells_ptr (And.intro @cells_mp (And.intro @cells_clo (And.intro @cells_junk (And.intro @viewO_a (And.intro @viewO_w (And.intro @viewO_all (And.intro @viewO_allw (And.intro @viewO_none (And.intro @viewO_open (And.intro @viewP_f (And.intro @viewP_a (And.intro @viewP_fw (And.intro @viewP_aw (And.intro @viewP_none (And.intro @viewP_open (And.intro @srcO_a (And.intro @srcO_all (And.intro @take_all (And.intro @lo_some (And.intro @lo_none (And.intro @hi_some (And.intro @hi_none (And.intro @kBldS_1 (And.intro @kRows_ref (@kRows_ptr)))))))))))))))))))))))))))))))))))))))
def vb10:=And.intro @kCallv_clo (And.intro @kCallw_eq (And.intro @kBlaS_1 (And.intro @kCell_ptr (And.intro @kCellO_agg (And.intro @kCellO_one (And.intro @resD_one (And.intro @resD_two (And.intro @resD_nil (And.intro @finC_eq (And.intro @finF_eq (And.intro @finFO_eq (And.intro @finFK_eq (And.intro @fitL_nil (And.intro @fitL_none (And.intro @fitL_some (And.intro @callF_eq (And.intro @callFO_eq (And.intro @callFK_eq (And.intro @kCallpw_eq (And.intro @callPF_eq (And.intro @callPFO_eq (And.intro @callPFK_eq (And.intro @callPfl_eq (And.intro @callVfl_eq (And.intro @kStay_eq (And.intro @kStayO_eq (And.intro @kFlt_eq (And.intro @kFltO_eq (And.intro @kEmp_eq (And.intro @kEmpD_nl (And.intro @kUnf_eq (And.intro @kUnfO_eq (And.intro @kUnfC_own (And.intro @kWk_eq (And.intro @kWkO_eq (And.intro @kNlo_eq (And.intro @kNloO_eq (And.intro @kSwap_eq (@kFrz_eq)))))))))))))))))))))))))))))))))))))))
def vb11:=And.intro @kFrzO_eq (And.intro @kFold_eq (And.intro @kFoldA_eq (And.intro @kFoldB_eq (And.intro @kFoldC_ref (And.intro @kFoldC_mp (And.intro @kFoldC_mpf (And.intro @kFoldC_reff (And.intro @uns_f (@uns_t)))))))))
def vz0:=And.intro @Option.map_some.{0,0} (And.intro @Option.map_none.{0,0} (And.intro @List.nil_append.{0} (And.intro @List.cons_append.{0} (And.intro @List.map_cons.{0,0} (And.intro @List.map_nil.{0,0} (And.intro @List.any_cons.{0} (And.intro @List.any_nil.{0} (And.intro @List.all_cons.{0} (And.intro @List.all_nil.{0} (And.intro @Bool.or_false (And.intro @Bool.false_or (And.intro @Bool.or_true (And.intro @Bool.true_or (And.intro @Bool.and_true (And.intro @Bool.true_and (And.intro @Bool.and_false (And.intro @Bool.false_and (And.intro @Bool.not_true (And.intro @Bool.not_false (And.intro @List.getD_cons_zero.{0} (And.intro @List.getD_cons_succ.{0} (And.intro @List.length_cons.{0} (And.intro @List.length_nil.{0} (And.intro @List.contains_cons.{0} (And.intro @List.contains_nil.{0} (And.intro @Nat.zero_add (And.intro @Nat.add_zero (And.intro @Int.toNat_natCast (And.intro @and_true (And.intro @true_and (And.intro @and_self (And.intro @eq_self.{1} (And.intro @decide_true (And.intro @decide_false (And.intro @List.drop_zero.{0} (And.intro @List.set_cons_zero.{0} (And.intro @List.set_cons_succ.{0} (And.intro @List.take_nil.{0} (@List.drop_nil.{0})))))))))))))))))))))))))))))))))))))))
def vz1:=And.intro @Option.isSome_some.{0} (And.intro @Option.isSome_none.{0} (And.intro @Option.isNone_some.{0} (And.intro @Option.isNone_none.{0} (And.intro @false_or (And.intro @or_false (And.intro @true_or (And.intro @or_true (And.intro @false_and (And.intro @and_false (And.intro @List.set_set.{0} (And.intro @List.length_set.{0} (And.intro @Bool.true_eq_false (And.intro @Bool.false_eq_true (And.intro @beq_self_eq_true.{0} (And.intro @List.take_succ_cons.{0} (And.intro @List.drop_succ_cons.{0} (@List.take_zero.{0})))))))))))))))))
end Go.Dm
