/-
 Texts of this claim, one behind another.
-/
import Derived.Test.YtpgomgjpliallaaMg16
import Derived.Test.YtpgomgjpliallaaMg13
set_option linter.unusedSimpArgs false
set_option linter.unnecessarySimpa false
set_option linter.unusedVariables false
set_option linter.defProp false
namespace Go.Proofs.Ytpgomgjpliallaa
open Go.Dm
def rfV (nx:Nat→Nat→Nat) (c:Nat→Nat) (i m s:Nat):Nat:=if s<m then c (nx i s) else 0
def rfK (nx:Nat→Nat→Nat) (c:Nat→Nat) (i m:Nat):List D:=[.v (.int .i64 (c i:Nat)),.v (.int .i64 (rfV nx c i m 0:Nat)),.v (.int .i64 (rfV nx c i m 1:Nat)),.v (.int .i64 (rfV nx c i m 2:Nat))]
theorem rfK_eq {nx:Nat→Nat→Nat} {c:Nat→Nat} {i m:Nat}:rfK nx c i m=[.v (.int .i64 (c i:Nat)),.v (.int .i64 (rfV nx c i m 0:Nat)),.v (.int .i64 (rfV nx c i m 1:Nat)),.v (.int .i64 (rfV nx c i m 2:Nat))]:=(rfl)
def rfE (nx:Nat→Nat→Nat) (c:Nat→Nat) (k:Nat) (rs:List Nat) (j:Nat):List D:=rfK nx c (rs.getD j 0) k++[iv .i64 j]
def rfM (nx:Nat→Nat→Nat) (c:Nat→Nat) (k:Nat) (rs:List Nat):List (List D):=(List.range rs.length).map (rfE nx c k rs)
def KeyEq (nx:Nat→Nat→Nat) (c:Nat→Nat) (k a b:Nat):Prop:=c a=c b∧∀ s,s<k→c (nx a s)=c (nx b s)
section
variable {nx:Nat→Nat→Nat} {c:Nat→Nat} {k i m:Nat} {rs:List Nat}
theorem rfM_len:(rfM nx c k rs).length=rs.length:=by simp [rfM]
theorem rfM_get {j:Nat} (h:j<rs.length):(rfM nx c k rs).getD j []=rfE nx c k rs j:=by simp [rfM,List.getD_eq_getElem?_getD,h]
theorem rfM_app:rfM nx c k rs++[[.v (.int .i64 (c i:Nat)),.v (.int .i64 (rfV nx c i k 0:Nat)),.v (.int .i64 (rfV nx c i k 1:Nat)),.v (.int .i64 (rfV nx c i k 2:Nat)),.v (.int .i64 (rs.length:Int))]]=rfM nx c k (rs++[i]):=by
  have h1:(rs++[i]).getD rs.length 0=i:=by simp [List.getD_eq_getElem?_getD]
  unfold rfM
  rw [List.length_append,List.length_singleton,List.range_succ,List.map_append,List.map_singleton]
  congr 1
  · refine List.map_congr_left fun j hj => ?_
    have:=List.mem_range.1 hj
    have:(rs++[i]).getD j 0=rs.getD j 0:=by simp only [List.getD_eq_getElem?_getD];rw [List.getElem?_append_left this]
    unfold rfE
    rw [this]
  · unfold rfE
    rw [h1];rfl
theorem key_iff (hk:k≤3) {a b:Nat}:(c a=c b∧rfV nx c a k 0=rfV nx c b k 0∧rfV nx c a k 1=rfV nx c b k 1∧rfV nx c a k 2=rfV nx c b k 2) ↔ KeyEq nx c k a b:=by
  unfold KeyEq rfV
  constructor
  · rintro ⟨h0,h1,h2,h3⟩
    refine ⟨h0,fun s hs => ?_⟩
    have:s=0∨s=1∨s=2:=by omega
    rcases this with rfl|rfl|rfl
    · rwa [if_pos hs,if_pos hs] at h1
    · rwa [if_pos hs,if_pos hs] at h2
    · rwa [if_pos hs,if_pos hs] at h3
  · rintro ⟨h0,h1⟩
    refine ⟨h0,?_,?_,?_⟩
    all_goals
      split
      · exact h1 _ (by assumption)
      · rfl
theorem rf_in (hk:k≤3) {r:Nat} (hr:r<(rfM nx c k rs).length) (he:Agr (((rfM nx c k rs).getD r []).take 4) [.v (.int .i64 (c i:Nat)),.v (.int .i64 (rfV nx c i k 0:Nat)),.v (.int .i64 (rfV nx c i k 1:Nat)),.v (.int .i64 (rfV nx c i k 2:Nat))]):r<rs.length∧KeyEq nx c k (rs.getD r 0) i∧(rfM nx c k rs).getD r []=[.v (.int .i64 (c (rs.getD r 0):Nat)),.v (.int .i64 (rfV nx c (rs.getD r 0) k 0:Nat)),.v (.int .i64 (rfV nx c (rs.getD r 0) k 1:Nat)),.v (.int .i64 (rfV nx c (rs.getD r 0) k 2:Nat)),iv .i64 r]:=by
  rw [rfM_len] at hr
  rw [rfM_get hr] at he ⊢
  simp only [rfE,rfK,iv,List.cons_append,List.nil_append,List.take_succ_cons,List.take_zero,Agr_v,D.v.injEq,Value.int.injEq,true_and,Int.ofNat_inj] at he
  obtain ⟨h0,h1,h2,h3,_⟩:=he
  exact ⟨hr,(key_iff hk).1 ⟨h0,h1,h2,h3⟩,rfl⟩
theorem rf_out (hk:k≤3) (hno:∀ r,r<(rfM nx c k rs).length→((rfM nx c k rs).getD r []).take 4 ≠ [.v (.int .i64 (c i:Nat)),.v (.int .i64 (rfV nx c i k 0:Nat)),.v (.int .i64 (rfV nx c i k 1:Nat)),.v (.int .i64 (rfV nx c i k 2:Nat))]) {a:Nat} (ha:a<rs.length):¬ KeyEq nx c k (rs.getD a 0) i:=fun e=>by
  refine hno a (by rw [rfM_len];exact ha) ?_
  rw [rfM_get ha]
  obtain ⟨h0,h1,h2,h3⟩:=(key_iff hk).2 e
  unfold rfE rfK
  rw [h0,h1,h2,h3];rfl
structure RfI (nx:Nat→Nat→Nat) (c:Nat→Nat) (k:Nat) (rs:List Nat) (d:Nat→Nat) (i:Nat):Prop where
  lt:∀ a,a<i→d a<rs.length∧KeyEq nx c k (rs.getD (d a) 0) a
  inj:∀ x y,x<rs.length→y<rs.length→KeyEq nx c k (rs.getD x 0) (rs.getD y 0)→x=y
  st:∀ x,x<rs.length→rs.getD x 0<i
  len:rs.length≤i
theorem KeyEq.symm {a b:Nat} (h:KeyEq nx c k a b):KeyEq nx c k b a:=⟨h.1.symm,fun s hs=>(h.2 s hs).symm⟩
theorem KeyEq.trans {a b e:Nat} (h:KeyEq nx c k a b) (h2:KeyEq nx c k b e):KeyEq nx c k a e:=⟨h.1.trans h2.1,fun s hs=>(h.2 s hs).trans (h2.2 s hs)⟩
theorem KeyEq.refl {a:Nat}:KeyEq nx c k a a:=⟨rfl,fun _ _=>rfl⟩
theorem RfI.start {d:Nat→Nat}:RfI nx c k [] d 0:=⟨fun a h=>absurd h (Nat.not_lt_zero _),fun x y h=>absurd h (Nat.not_lt_zero _),fun x h=>absurd h (Nat.not_lt_zero _),Nat.le_refl _⟩
theorem RfI.old {d:Nat→Nat} (h:RfI nx c k rs d i) {r:Nat} (hr:r<rs.length) (he:KeyEq nx c k (rs.getD r 0) i):RfI nx c k rs (fun a=>if a=i then r else d a) (i+1):=by
  refine ⟨fun a ha => ?_,h.inj,fun x hx=>by have:=h.st x hx;omega,by have:=h.len;omega⟩
  by_cases e:a=i
  · subst e;simp only [if_true];exact ⟨hr,he⟩
  · simp only [if_neg e];exact h.lt a (by omega)
theorem RfI.new {d : Nat → Nat} (h : RfI nx c k rs d i) (hno : ∀ a, a < rs.length → ¬ KeyEq nx c k (rs.getD a 0) i) : RfI nx c k (rs ++ [i]) (fun a => if a = i then rs.length else d a) (i + 1) := by
  have hl:(rs++[i]).length=rs.length+1:=by simp
  refine ⟨fun a ha => ?_,fun x y hx hy e => ?_,fun x hx => ?_,by have:=h.len;omega⟩
  · by_cases e:a=i
    · subst e;simp only [if_true]
      exact ⟨by omega,by rw [getD_appR];exact .refl⟩
    · simp only [if_neg e]
      obtain ⟨h1,h2⟩:=h.lt a (by omega)
      exact ⟨by omega,by rw [getD_appL h1];exact h2⟩
  · rw [hl] at hx hy
    by_cases ex:x=rs.length
    · by_cases ey:y=rs.length
      · omega
      · rw [ex,getD_appR,getD_appL (by omega)] at e
        exact absurd e.symm (hno y (by omega))
    · by_cases ey:y=rs.length
      · rw [ey,getD_appR,getD_appL (by omega)] at e
        exact absurd e (hno x (by omega))
      · rw [getD_appL (by omega),getD_appL (by omega)] at e
        exact h.inj x y (by omega) (by omega) e
  · rw [hl] at hx
    by_cases ex:x=rs.length
    · rw [ex,getD_appR];omega
    · rw [getD_appL (by omega)];have:=h.st x (by omega);omega
theorem RfI.eq {d:Nat→Nat} {n:Nat} (h:RfI nx c k rs d n) {a b:Nat} (ha:a<n) (hb:b<n):d a=d b ↔ KeyEq nx c k a b:=by
  obtain ⟨h1,h2⟩:=h.lt a ha
  obtain ⟨h3,h4⟩:=h.lt b hb
  constructor
  · intro e;rw [e] at h2;exact h2.symm.trans h4
  · intro e;exact h.inj _ _ h1 h3 ((h2.trans e).trans h4.symm)
theorem RfI.many {d:Nat→Nat} {n:Nat} (h:RfI nx c k rs d n):(cls d n).length=rs.length:=by
  have hn:((cls d n).map d).Nodup:=by
    rw [List.nodup_iff_pairwise_ne,List.pairwise_map]
    refine List.Pairwise.imp_of_mem ?_ (List.nodup_iff_pairwise_ne.1 (@cls_nodup d n))
    intro a b ha hb hne e
    exact hne (cls_inj ha hb e)
  have h1:=List.Nodup.length_le_of_subset hn (l₂:=List.range rs.length) fun x hx=>by
    obtain ⟨a,a1,rfl⟩:=List.mem_map.1 hx
    exact List.mem_range.2 (h.lt a (cls_mem.1 a1).1).1
  have h2:=List.Nodup.length_le_of_subset (List.nodup_range (n:=rs.length)) (l₂:=(cls d n).map d) fun x hx=>by
    have hx:=List.mem_range.1 hx
    have h3:=h.st x hx
    obtain ⟨r,r1,r2,r3⟩:=cls_ex (c:=d) h3
    refine List.mem_map.2 ⟨r,r1,?_⟩
    rw [r3]
    obtain ⟨h4,h5⟩:=h.lt _ h3
    exact h.inj _ _ h4 hx h5
  rw [List.length_map,List.length_range] at h1 h2
  omega
end
theorem RfI.cl {L:Lg} {k n t:Nat} {nx:Nat→Nat→Nat} {fi:Nat→Bool} {D:Nat→Lg} (hD:DF L k n nx fi D) {c d:Nat→Nat} {rs:List Nat} (h:RfI nx c k rs d n) (hc:ClE k D n t c):ClE k D n (t+1) d:=fun i j hi hj=>by
  rw [h.eq hi hj,hD.eqS hi hj]
  unfold KeyEq
  rw [hc i j hi hj]
  constructor
  · exact fun ⟨h1,h2⟩=>⟨h1,fun s hs=>(hc _ _ (hD.lt i s hi hs) (hD.lt j s hj hs)).1 (h2 s hs)⟩
  · exact fun ⟨h1,h2⟩=>⟨h1,fun s hs=>(hc _ _ (hD.lt i s hi hs) (hD.lt j s hj hs)).2 (h2 s hs)⟩
theorem rfK_set {nx:Nat→Nat→Nat} {c:Nat→Nat} {i s:Nat} (h:s<3):[.v (.int .i64 (c i:Nat)),.v (.int .i64 (rfV nx c i s 0:Nat)),.v (.int .i64 (rfV nx c i s 1:Nat)),.v (.int .i64 (rfV nx c i s 2:Nat))].set ((s+1) * 1) (D.v (.int .i64 (c (nx i s):Nat)))=[.v (.int .i64 (c i:Nat)),.v (.int .i64 (rfV nx c i (s+1) 0:Nat)),.v (.int .i64 (rfV nx c i (s+1) 1:Nat)),.v (.int .i64 (rfV nx c i (s+1) 2:Nat))]:=by
  have:s=0∨s=1∨s=2:=by omega
  rcases this with rfl|rfl|rfl<;>simp [rfV]
theorem rfV_le {L:Lg} {k n:Nat} {nx:Nat→Nat→Nat} {fi:Nat→Bool} {D:Nat→Lg} (hD:DF L k n nx fi D) {c:Nat→Nat} {B i s:Nat} (hc:∀ i,i<n→c i≤B) (hi:i<n):rfV nx c i k s≤B:=by
  unfold rfV
  split
  · exact hc _ (hD.lt i s hi (by assumption))
  · exact Nat.zero_le _
def nxR (k n:Nat) (nx:Nat→Nat→Nat):List (List Int):=(List.range n).map fun i=>rwN k (nx i)
theorem nxR_len {k n:Nat} {nx:Nat→Nat→Nat}:(nxR k n nx).length=n:=by simp [nxR]
theorem nxR_get {k n i:Nat} {nx:Nat→Nat→Nat} {d:List D} (h:i<n):(rows i64s (nxR k n nx)).getD i d=[.sl 1 (i64s (rwN k (nx i)))]:=by simp [nxR,rows,List.getD_eq_getElem?_getD,h]
def fiN (fi:Nat→Bool) (i:Nat):Nat:=if fi i then 1 else 0
def rfR (k n:Nat) (D:Nat→Lg) (d:Dm.D):Prop := ∃ c:Nat→Nat,d=.tu [.sl 1 (i64s (rwN n c)),iv .i64 ((cls c n).length:Nat)]∧(∀ i j,i<n→j<n→(c i=c j ↔ D i=D j))∧∀ i,i<n→c i≤3298534883330
def vsf:=And.intro vsw<|And.intro @nxR_len<|And.intro @nxR_get<|And.intro @rfM_len<|And.intro @rfM_app @rfK_eq
set_option maxRecDepth 10000 in
set_option maxHeartbeats 4000000 in
theorem cloneB_int (l:List Int) (h:l.length≤3298534883331):Dm.Spec Try.prog 25 [.sl 1 (i64s l)] (·=.sl 1 (i64s l)):=by
  refine spec_of_vc mixed Try.func25 c25 (by rw [show Try.f25.ntmps=_ from Try.ntmps25];simp) ?_
  unfold m25 r25
  repeat' first|((first|refine Br.dec ?_ ?_|refine Br.eqi ?_ ?_)<;>intro h<;>try (exfalso;omega))|(simp (disch:=first|omega|(simp only [vlen];first|done|omega)) only [↓vAq,vBq,↓reduceIte,Nat.reduceBEq,Nat.reduceEqDiff,Nat.reduceLT,Nat.reduceLeDiff,Nat.reduceAdd,Nat.reduceMul,Nat.reduceSub,reduceCtorEq,Int.reduceToNat])|(refine Br.mk ?_ ?_<;>intro h)|(refine BrN.mk (fun h => ?_) ?_)|(refine AltVC.mk ?_ ?_)
  · have:l=[]:=List.eq_nil_of_length_eq_zero (by assumption)
    subst this
    exact fin_mk rfl
  · exact fin_mk rfl
set_option maxRecDepth 10000 in
set_option maxHeartbeats 4000000 in
theorem refine_spec (L : Lg) (k n : Nat) (nx : Nat → Nat → Nat) (fi : Nat → Bool) (D : Nat → Lg) (hD : DF L k n nx fi D) (hk : 1 ≤ k ∧ k ≤ 3) (hn : n ≤ 3298534883330) : Dm.Spec Try.prog 11 [.ag [.sl 1 (rows i64s (nxR k n nx)), .sl 1 (i64s (rwN n (fiN fi)))], iv .i64 k] (rfR k n D) := by
  refine spec_of_vc mixed Try.func11 c11 (by rw [show Try.f11.ntmps=_ from Try.ntmps11];simp) ?_
  unfold m11 r11
  have hCl:=cloneB_int (rwN n (fiN fi)) (by rw [rwN_len];omega)
  have hn0:=hD.pos
  repeat' first|((first|refine Br.dec ?_ ?_|refine Br.eqi ?_ ?_)<;>intro h<;>try (exfalso;omega))|(simp (disch:=first|omega|(simp only [vlen];first|done|omega)) only [vsf,↓vAq,vBq,↓reduceIte,Nat.reduceBEq,Nat.reduceEqDiff,Nat.reduceLT,Nat.reduceLeDiff,Nat.reduceAdd,Nat.reduceMul,Nat.reduceSub,reduceCtorEq,Int.reduceToNat])|(refine Br.mk ?_ ?_<;>intro h)|(refine BrN.mk (fun h => ?_) ?_)|(refine AltVC.mk ?_ ?_)
  refine CallVC.eq hCl ?_
  repeat' first|((first|refine Br.dec ?_ ?_|refine Br.eqi ?_ ?_)<;>intro h<;>try (exfalso;omega))|(simp (disch:=first|omega|(simp only [vlen];first|done|omega)) only [vsf,↓vAq,vBq,↓reduceIte,Nat.reduceBEq,Nat.reduceEqDiff,Nat.reduceLT,Nat.reduceLeDiff,Nat.reduceAdd,Nat.reduceMul,Nat.reduceSub,reduceCtorEq,Int.reduceToNat])|(refine Br.mk ?_ ?_<;>intro h)|(refine BrN.mk (fun h => ?_) ?_)|(refine AltVC.mk ?_ ?_)
  refine LoopVC.mk (X:=Nat × (Nat→Nat) × Nat) (fun x=>[(2,.ptr 0 2 0 0),(6,.sl 1 (i64s (rwN n x.2.1))),(7,iv .i64 x.2.2)]) (fun x=>[(0,⟨2,[[.sl 1 (rows i64s (nxR k n nx)),.sl 1 (i64s (rwN n (fiN fi)))]],true,false,.fix⟩)]) (fun x=>n+1 - x.2.2) (fun x=>ClE k D n x.1 x.2.1∧(∀ i,i<n→x.2.1 i≤3298534883330)∧(x.2.2=0∨x.2.2=(cls x.2.1 n).length)) (0,fiN fi,0) ⟨fun i j hi hj => ?_,fun i hi => ?_,.inl rfl⟩ ?_ ?_
  · rw [hD.eq0 hi hj]
    unfold fiN
    cases h1:fi i<;>cases h2:fi j<;>simp [h1,h2]
  · show fiN fi i≤_
    unfold fiN
    split<;>omega
  · (simp (disch:=first|omega|(simp only [vlen];first|done|omega)) only [Fits_u,Fits_m,Fits_nil,List.length_append,vsf,↓vAq,vBq,↓reduceIte,Nat.reduceBEq,Nat.reduceEqDiff,Nat.reduceLT,Nat.reduceLeDiff,Nat.reduceAdd,Nat.reduceMul,Nat.reduceSub,reduceCtorEq,Int.reduceToNat]<;>(repeat' first|rfl|apply And.intro))
    all_goals trace_state
  · rintro ⟨t, c, many⟩ ⟨hC, hc, hm⟩
    simp only at hC hc hm ⊢
    repeat' first|((first|refine Br.dec ?_ ?_|refine Br.eqi ?_ ?_)<;>intro h<;>try (exfalso;omega))|(simp (disch:=first|omega|(simp only [vlen];first|done|omega)) only [rwN_rep,vsf,↓vAq,vBq,↓reduceIte,Nat.reduceBEq,Nat.reduceEqDiff,Nat.reduceLT,Nat.reduceLeDiff,Nat.reduceAdd,Nat.reduceMul,Nat.reduceSub,reduceCtorEq,Int.reduceToNat])|(refine Br.mk ?_ ?_<;>intro h)|(refine BrN.mk (fun h => ?_) ?_)|(refine AltVC.mk ?_ ?_)
    refine LoopVC.mk (X:=Nat × List Nat × (Nat→Nat)) (fun x=>[(2,.ptr 0 2 0 0),(8,.mp 2),(9,.ref 3 1 0 n),(25,iv .i64 x.1)]) (fun x=>[(0,⟨2,[[.sl 1 (rows i64s (nxR k n nx)),.sl 1 (i64s (rwN n (fiN fi)))]],true,false,.fix⟩),(2,⟨5,rfM nx c k x.2.1,true,false,.map [.i64,.i64,.i64,.i64] true false⟩),(3,⟨1,i64s (rwN n x.2.2),true,false,.arr⟩)]) (fun x=>n - x.1) (fun x=>x.1≤n∧RfI nx c k x.2.1 x.2.2 x.1) (0,[],fun _=>0) ⟨Nat.zero_le _,.start⟩ ?_ ?_
    · (simp (disch:=first|omega|(simp only [vlen];first|done|omega)) only [Fits_u,Fits_m,Fits_nil,List.length_append,vsf,↓vAq,vBq,↓reduceIte,Nat.reduceBEq,Nat.reduceEqDiff,Nat.reduceLT,Nat.reduceLeDiff,Nat.reduceAdd,Nat.reduceMul,Nat.reduceSub,reduceCtorEq,Int.reduceToNat]<;>(repeat' first|rfl|apply And.intro))
      all_goals trace_state
    · rintro ⟨i, rs, d⟩ ⟨hi, hI⟩
      simp only at hi hI ⊢
      have hrl:=hI.len
      by_cases hin:i<n
      · have hci:=hc i hin
        repeat' first|((first|refine Br.dec ?_ ?_|refine Br.eqi ?_ ?_)<;>intro h<;>try (exfalso;omega))|(simp (disch:=first|omega|(simp only [vlen];first|done|omega)) only [vsf,↓vAq,vBq,↓reduceIte,Nat.reduceBEq,Nat.reduceEqDiff,Nat.reduceLT,Nat.reduceLeDiff,Nat.reduceAdd,Nat.reduceMul,Nat.reduceSub,reduceCtorEq,Int.reduceToNat])|(refine Br.mk ?_ ?_<;>intro h)|(refine BrN.mk (fun h => ?_) ?_)|(refine AltVC.mk ?_ ?_)
        refine LoopVC.mk (X:=Nat) (fun s=>[(2,.ptr 0 2 0 0),(8,.mp 2),(9,.ref 3 1 0 n),(12,.ptr 4 4 0 0),(33,iv .i64 s)]) (fun s=>[(0,⟨2,[[.sl 1 (rows i64s (nxR k n nx)),.sl 1 (i64s (rwN n (fiN fi)))]],true,false,.fix⟩),(2,⟨5,rfM nx c k rs,true,false,.map [.i64,.i64,.i64,.i64] true false⟩),(3,⟨1,i64s (rwN n d),true,false,.arr⟩),(4,⟨4,[rfK nx c i s],true,false,.fix⟩)]) (fun s=>k - s) (fun s=>s≤k) 0 (Nat.zero_le _) ?_ ?_
        · (simp (disch:=first|omega|(simp only [vlen];first|done|omega)) only [Fits_u,Fits_m,Fits_nil,List.length_append,vsf,↓vAq,vBq,↓reduceIte,Nat.reduceBEq,Nat.reduceEqDiff,Nat.reduceLT,Nat.reduceLeDiff,Nat.reduceAdd,Nat.reduceMul,Nat.reduceSub,reduceCtorEq,Int.reduceToNat]<;>(repeat' first|rfl|apply And.intro))
          all_goals trace_state
        · intro s hs
          by_cases hsk:s<k
          · have hnx:=hD.lt i s hin hsk
            have hcn:=hc _ hnx
            have hset:=@rfK_set nx c i s (by omega)
            repeat' first|((first|refine Br.dec ?_ ?_|refine Br.eqi ?_ ?_)<;>intro h<;>try (exfalso;omega))|(simp (disch:=first|omega|(simp only [vlen];first|done|omega)) only [vsf,↓vAq,vBq,↓reduceIte,Nat.reduceBEq,Nat.reduceEqDiff,Nat.reduceLT,Nat.reduceLeDiff,Nat.reduceAdd,Nat.reduceMul,Nat.reduceSub,reduceCtorEq,Int.reduceToNat])|(refine Br.mk ?_ ?_<;>intro h)|(refine BrN.mk (fun h => ?_) ?_)|(refine AltVC.mk ?_ ?_)
            refine loopK.mk (s+1) (by simp (disch:=first|omega|(simp only [vlen];first|done|omega)) only [↓vAq,vBq,↓reduceIte,Nat.reduceBEq,Nat.reduceEqDiff,Nat.reduceLT,Nat.reduceLeDiff,Nat.reduceAdd,Nat.reduceMul,Nat.reduceSub,reduceCtorEq,Int.reduceToNat]) (by omega) (by omega) ?_
            rw [hset]
            (simp (disch:=first|omega|(simp only [vlen];first|done|omega)) only [Fits_u,Fits_m,Fits_nil,List.length_append,vsf,↓vAq,vBq,↓reduceIte,Nat.reduceBEq,Nat.reduceEqDiff,Nat.reduceLT,Nat.reduceLeDiff,Nat.reduceAdd,Nat.reduceMul,Nat.reduceSub,reduceCtorEq,Int.reduceToNat]<;>(repeat' first|rfl|apply And.intro))
            all_goals trace_state
          · have hse:s=k:=by omega
            subst hse
            have v0:=rfV_le (s:=0) hD hc hin
            have v1:=rfV_le (s:=1) hD hc hin
            have v2:=rfV_le (s:=2) hD hc hin
            repeat' first|((first|refine Br.dec ?_ ?_|refine Br.eqi ?_ ?_)<;>intro h<;>try (exfalso;omega))|(simp (disch:=first|omega|(simp only [vlen];first|done|omega)) only [vsf,↓vAq,vBq,↓reduceIte,Nat.reduceBEq,Nat.reduceEqDiff,Nat.reduceLT,Nat.reduceLeDiff,Nat.reduceAdd,Nat.reduceMul,Nat.reduceSub,reduceCtorEq,Int.reduceToNat])|(refine Br.mk ?_ ?_<;>intro h)|(refine BrN.mk (fun h => ?_) ?_)|(refine AltVC.mk ?_ ?_)
            refine BrK.mk (fun r hr he => ?_) (fun hno => ?_)
            · obtain ⟨r1,r2,r3⟩:=rf_in hk.2 hr he
              repeat' first|((first|refine Br.dec ?_ ?_|refine Br.eqi ?_ ?_)<;>intro h<;>try (exfalso;omega))|(simp (disch:=first|omega|(simp only [vlen];first|done|omega)) only [r3,vsf,↓vAq,vBq,↓reduceIte,Nat.reduceBEq,Nat.reduceEqDiff,Nat.reduceLT,Nat.reduceLeDiff,Nat.reduceAdd,Nat.reduceMul,Nat.reduceSub,reduceCtorEq,Int.reduceToNat])|(refine Br.mk ?_ ?_<;>intro h)|(refine BrN.mk (fun h => ?_) ?_)|(refine AltVC.mk ?_ ?_)
              refine loopK.mk (i+1,rs,fun a=>if a=i then r else d a) (by simp (disch:=first|omega|(simp only [vlen];first|done|omega)) only [vsf,↓vAq,vBq,↓reduceIte,Nat.reduceBEq,Nat.reduceEqDiff,Nat.reduceLT,Nat.reduceLeDiff,Nat.reduceAdd,Nat.reduceMul,Nat.reduceSub,reduceCtorEq,Int.reduceToNat]) ⟨by show i+1≤n;omega,hI.old r1 r2⟩ (by show n - (i+1)<n - i;omega) ?_
              (simp (disch:=first|omega|(simp only [vlen];first|done|omega)) only [Fits_u,Fits_m,Fits_nil,List.length_append,vsf,↓vAq,vBq,↓reduceIte,Nat.reduceBEq,Nat.reduceEqDiff,Nat.reduceLT,Nat.reduceLeDiff,Nat.reduceAdd,Nat.reduceMul,Nat.reduceSub,reduceCtorEq,Int.reduceToNat]<;>(repeat' first|rfl|apply And.intro))
              all_goals trace_state
            · have hno2:=fun a ha=>rf_out hk.2 hno (a:=a) ha
              have hlen:(rs++[i]).length=rs.length+1:=by simp
              repeat' first|((first|refine Br.dec ?_ ?_|refine Br.eqi ?_ ?_)<;>intro h<;>try (exfalso;omega))|(simp (disch:=first|omega|(simp only [vlen];first|done|omega)) only [hlen,vsf,↓vAq,vBq,↓reduceIte,Nat.reduceBEq,Nat.reduceEqDiff,Nat.reduceLT,Nat.reduceLeDiff,Nat.reduceAdd,Nat.reduceMul,Nat.reduceSub,reduceCtorEq,Int.reduceToNat])|(refine Br.mk ?_ ?_<;>intro h)|(refine BrN.mk (fun h => ?_) ?_)|(refine AltVC.mk ?_ ?_)
              refine BrK.mk (fun r hr he=>absurd (rf_in hk.2 hr he).2.1 (hno2 r (rf_in hk.2 hr he).1)) (fun _ => ?_)
              repeat' first|((first|refine Br.dec ?_ ?_|refine Br.eqi ?_ ?_)<;>intro h<;>try (exfalso;omega))|(simp (disch:=first|omega|(simp only [vlen];first|done|omega)) only [hlen,vsf,↓vAq,vBq,↓reduceIte,Nat.reduceBEq,Nat.reduceEqDiff,Nat.reduceLT,Nat.reduceLeDiff,Nat.reduceAdd,Nat.reduceMul,Nat.reduceSub,reduceCtorEq,Int.reduceToNat])|(refine Br.mk ?_ ?_<;>intro h)|(refine BrN.mk (fun h => ?_) ?_)|(refine AltVC.mk ?_ ?_)
              refine loopK.mk (i+1,rs++[i],fun a=>if a=i then rs.length else d a) (by simp (disch:=first|omega|(simp only [vlen];first|done|omega)) only [vsf,↓vAq,vBq,↓reduceIte,Nat.reduceBEq,Nat.reduceEqDiff,Nat.reduceLT,Nat.reduceLeDiff,Nat.reduceAdd,Nat.reduceMul,Nat.reduceSub,reduceCtorEq,Int.reduceToNat]) ⟨by show i+1≤n;omega,hI.new hno2⟩ (by show n - (i+1)<n - i;omega) ?_
              (simp (disch:=first|omega|(simp only [vlen];first|done|omega)) only [Fits_u,Fits_m,Fits_nil,List.length_append,hlen,vsf,↓vAq,vBq,↓reduceIte,Nat.reduceBEq,Nat.reduceEqDiff,Nat.reduceLT,Nat.reduceLeDiff,Nat.reduceAdd,Nat.reduceMul,Nat.reduceSub,reduceCtorEq,Int.reduceToNat]<;>(repeat' first|rfl|apply And.intro))
              all_goals trace_state
      · have hie:i=n:=by omega
        subst hie
        have hmy:=hI.many
        have hC2:=hI.cl hD hC
        have hle:=hC.lt hC2
        have hcl:=@cls_len d i
        have hcp:=@cls_pos d i hn0
        by_cases hm2:rs.length=many
        · repeat' first|((first|refine Br.dec ?_ ?_|refine Br.eqi ?_ ?_)<;>intro h<;>try (exfalso;omega))|(simp (disch:=first|omega|(simp only [vlen];first|done|omega)) only [hm2,vsf,↓vAq,vBq,↓reduceIte,Nat.reduceBEq,Nat.reduceEqDiff,Nat.reduceLT,Nat.reduceLeDiff,Nat.reduceAdd,Nat.reduceMul,Nat.reduceSub,reduceCtorEq,Int.reduceToNat])|(refine Br.mk ?_ ?_<;>intro h)|(refine BrN.mk (fun h => ?_) ?_)|(refine AltVC.mk ?_ ?_)
          refine fin_mk ⟨d,by rw [hmy,hm2],fun a b ha hb => ?_,fun a ha=>by have:=(hI.lt a ha).1;omega⟩
          rcases hm with hm|hm
          · omega
          · exact ClE.same hD hC hC2 (by omega) ha hb
        · repeat' first|((first|refine Br.dec ?_ ?_|refine Br.eqi ?_ ?_)<;>intro h<;>try (exfalso;omega))|(simp (disch:=first|omega|(simp only [vlen];first|done|omega)) only [hm2,vsf,↓vAq,vBq,↓reduceIte,Nat.reduceBEq,Nat.reduceEqDiff,Nat.reduceLT,Nat.reduceLeDiff,Nat.reduceAdd,Nat.reduceMul,Nat.reduceSub,reduceCtorEq,Int.reduceToNat])|(refine Br.mk ?_ ?_<;>intro h)|(refine BrN.mk (fun h => ?_) ?_)|(refine AltVC.mk ?_ ?_)
          refine loopK.frz 3 ?_
          repeat' first|((first|refine Br.dec ?_ ?_|refine Br.eqi ?_ ?_)<;>intro h<;>try (exfalso;omega))|(simp (disch:=first|omega|(simp only [vlen];first|done|omega)) only [hm2,vsf,↓vAq,vBq,↓reduceIte,Nat.reduceBEq,Nat.reduceEqDiff,Nat.reduceLT,Nat.reduceLeDiff,Nat.reduceAdd,Nat.reduceMul,Nat.reduceSub,reduceCtorEq,Int.reduceToNat])|(refine Br.mk ?_ ?_<;>intro h)|(refine BrN.mk (fun h => ?_) ?_)|(refine AltVC.mk ?_ ?_)
          refine loopK.mk (t+1,d,rs.length) (by simp (disch:=first|omega|(simp only [vlen];first|done|omega)) only [vsf,↓vAq,vBq,↓reduceIte,Nat.reduceBEq,Nat.reduceEqDiff,Nat.reduceLT,Nat.reduceLeDiff,Nat.reduceAdd,Nat.reduceMul,Nat.reduceSub,reduceCtorEq,Int.reduceToNat]) ⟨hC2,fun a ha=>by show d a≤3298534883330;have:=(hI.lt a ha).1;omega,.inr hmy.symm⟩ (by show i+1 - rs.length<i+1 - many;omega) ?_
          (simp (disch:=first|omega|(simp only [vlen];first|done|omega)) only [Fits_u,Fits_m,Fits_nil,List.length_append,vsf,↓vAq,vBq,↓reduceIte,Nat.reduceBEq,Nat.reduceEqDiff,Nat.reduceLT,Nat.reduceLeDiff,Nat.reduceAdd,Nat.reduceMul,Nat.reduceSub,reduceCtorEq,Int.reduceToNat]<;>(repeat' first|rfl|apply And.intro))
          all_goals trace_state
end Go.Proofs.Ytpgomgjpliallaa

namespace Go.Proofs.Ytpgomgjpliallaa
open Go.Dm
noncomputable def bfN (L:Lg) (k i s:Nat):Nat:=idxL (bfL L k (i * k+s+1)) (dvL ((bfL L k (i * k+s)).getD i noL) s)
open Classical in
noncomputable def bfF (L:Lg) (k i:Nat):Bool:=decide ((bfL L k (i * k)).getD i noL [])
open Classical in
theorem bfF_iff {L:Lg} {k i:Nat}:bfF L k i=true ↔ (bfL L k (i * k)).getD i noL []:=by unfold bfF;exact decide_eq_true_iff
structure FoI (D:Nat→Lg) (n:Nat) (L:Lg) (k:Nat) (m:Nat) (Fd:Nat→Nat) (t:Nat):Prop where
  lt:∀ j,j<m→Fd j<n
  eq:((List.range m).map fun j=>D (Fd j))=bfL L k t
section
variable {L:Lg} {k n m t i s r:Nat} {nx:Nat→Nat→Nat} {fi:Nat→Bool} {D:Nat→Lg} {Fd:Nat→Nat}
theorem FoI.len (h:FoI D n L k m Fd t):(bfL L k t).length=m:=by rw [← h.eq];simp
theorem FoI.get (h:FoI D n L k m Fd t) {j:Nat} (hj:j<m):(bfL L k t).getD j noL=D (Fd j):=by
  rw [← h.eq];simp [List.getD_eq_getElem?_getD,hj]
theorem FoI.start (hD:DF L k n nx fi D):FoI D n L k 1 (fun _=>0) 0:=⟨fun _ _=>hD.pos,by simp [bfL,hD.st]⟩
theorem at_div (hs:s<k):(i * k+s) / k=i:=by rw [Nat.mul_comm,Nat.mul_add_div (by omega),Nat.div_eq_of_lt hs,Nat.add_zero]
theorem at_mod (hs:s<k):(i * k+s) % k=s:=by rw [Nat.mul_comm,Nat.mul_add_mod,Nat.mod_eq_of_lt hs]
theorem FoI.old (h:FoI D n L k m Fd (i * k+s)) (hD:DF L k n nx fi D) (hi:i<m) (hs:s<k) (hr:r<m) (he:D (Fd r)=D (nx (Fd i) s)):FoI D n L k m Fd (i * k+s+1)∧r=bfN L k i s:=by
  have hX:dvL ((bfL L k (i * k+s)).getD i noL) s=D (Fd r):=by rw [h.get hi,he,hD.nxt _ _ (h.lt i hi) hs]
  have hm:D (Fd r) ∈ bfL L k (i * k+s):=by rw [← h.get hr];exact getD_memL (by rw [h.len];exact hr)
  have hb:bfL L k (i * k+s+1)=bfL L k (i * k+s):=by
    rw [bfL_succ,at_div hs,at_mod hs,if_pos (by rw [h.len];exact hi),hX]
    unfold pushL;rw [if_pos hm]
  refine ⟨⟨h.lt,by rw [hb];exact h.eq⟩,?_⟩
  unfold bfN
  rw [hX,hb]
  exact (idxL_of bfL_nodup (by rw [h.len];exact hr) (h.get hr)).symm
theorem FoI.new2 (h:FoI D n L k m Fd (i * k+s)) (hD:DF L k n nx fi D) (hi:i<m) (hs:s<k) {st:Nat} (hst:st<n) (hse:D st=D (nx (Fd i) s)) (hno:∀ r,r<m→D (Fd r) ≠ D (nx (Fd i) s)):FoI D n L k (m+1) (fun j=>if j=m then st else Fd j) (i * k+s+1)∧m=bfN L k i s:=by
  have hX:dvL ((bfL L k (i * k+s)).getD i noL) s=D st:=by rw [h.get hi,hse,hD.nxt _ _ (h.lt i hi) hs]
  have hm:¬ D st ∈ bfL L k (i * k+s):=by
    rw [← h.eq,hse]
    intro hm
    obtain ⟨j,j1,j2⟩:=List.mem_map.1 hm
    exact hno j (List.mem_range.1 j1) j2
  have hb:bfL L k (i * k+s+1)=bfL L k (i * k+s)++[D st]:=by
    rw [bfL_succ,at_div hs,at_mod hs,if_pos (by rw [h.len];exact hi),hX]
    unfold pushL;rw [if_neg hm]
  refine ⟨⟨fun j hj => ?_,?_⟩,?_⟩
  · by_cases e:j=m
    · rw [e,if_pos rfl];exact hst
    · rw [if_neg e];exact h.lt j (by omega)
  · rw [hb,← h.eq,List.range_succ,List.map_append,List.map_singleton,if_pos rfl]
    congr 1
    refine List.map_congr_left fun j hj => ?_
    have:=List.mem_range.1 hj
    rw [if_neg (by omega)]
  · unfold bfN
    rw [hX,hb]
    refine (idxL_of (by rw [← hb];exact bfL_nodup) (i:=m) (by rw [List.length_append,h.len];simp) ?_).symm
    have:=h.len
    simp [List.getD_eq_getElem?_getD,← this]
theorem FoI.new (h:FoI D n L k m Fd (i * k+s)) (hD:DF L k n nx fi D) (hi:i<m) (hs:s<k) (hno:∀ r,r<m→D (Fd r) ≠ D (nx (Fd i) s)):FoI D n L k (m+1) (fun j=>if j=m then nx (Fd i) s else Fd j) (i * k+s+1)∧m=bfN L k i s :=
  h.new2 hD hi hs (hD.lt _ _ (h.lt i hi) hs) rfl hno
end
def Big (L:Lg) (k:Nat):Prop := ∃ t,7<(bfL L k t).length
def Fx (L:Lg) (k m:Nat):Prop:=(bfL L k (m * k)).length=m∧∀ a,a<m→a<(bfL L k (a * k)).length
theorem Fx.uniq {L:Lg} {k m m':Nat} (h:Fx L k m) (h':Fx L k m'):m=m':=by
  rcases Nat.lt_trichotomy m m' with hl|hl|hl
  · have:=h'.2 m hl;have:=h.1;omega
  · exact hl
  · have:=h.2 m' hl;have:=h'.1;omega
theorem DF.big {L:Lg} {k n:Nat} {nx:Nat→Nat→Nat} {fi:Nat→Bool} {D:Nat→Lg} (h:DF L k n nx fi D) (hk:0<k) {c:Nat→Nat} (hc:∀ i j,i<n→j<n→(c i=c j ↔ D i=D j)):Big L k ↔ 7<(cls c n).length:=by
  constructor
  · rintro ⟨t,ht⟩
    have:=h.few hk hc (t:=t)
    omega
  · intro h7
    have h1:=h.few hk hc (t:=(cls c n).length * k)
    have h2:=h.all hk hc h1
    exact ⟨_,Nat.lt_of_lt_of_le h7 h2⟩
theorem DF.fx {L:Lg} {k n m:Nat} {nx:Nat→Nat→Nat} {fi:Nat→Bool} {D:Nat→Lg} (h:DF L k n nx fi D) (hk:0<k) {c:Nat→Nat} (hc:∀ i j,i<n→j<n→(c i=c j ↔ D i=D j)) (hm:Fx L k m):m=(cls c n).length:=by
  have h1:=h.few hk hc (t:=m * k)
  have h2:=h.all hk hc (m:=m) (by rw [hm.1];exact Nat.le_refl _)
  rw [hm.1] at h1 h2
  omega
noncomputable def bfM (L:Lg) (k m:Nat):Dm.Machine:=⟨m,k,(List.range m).map fun i=>(List.range k).map fun s=>((bfN L k i s:Nat):Int),0,((setOf (bfF L k) m:Nat):Int)⟩
end Go.Proofs.Ytpgomgjpliallaa

namespace Go.Proofs.Ytpgomgjpliallaa
open Go.Dm
theorem fold_dvL {X:Lg}:∀ {w:List Nat},w.foldl dvL X=fun v=>X (w.map (fun c:Nat=>(c:Int))++v)
  | []=>rfl
  | c::w=>by
    rw [List.foldl_cons,fold_dvL (X:=dvL X c) (w:=w)]
    rfl
theorem cast_back:∀ {w:List Int},(∀ c,c ∈ w→0≤c)→(w.map Int.toNat).map (fun c:Nat=>(c:Int))=w
  | [],_=>rfl
  | c::w,h=>by
    rw [List.map_cons,List.map_cons,cast_back fun c hc=>h c (List.mem_cons_of_mem _ hc)]
    congr 1
    have:=h c (by simp);omega
theorem lang_syms {k:Int} {l:List Dm.Node} (hv:NodesOk k l) (hl:0<l.length) {v:List Int} (h:lang l (l.length - 1) v):∀ c,c ∈ v→0≤c∧c<k:=fun c hc=>by
  have hr:l.length - 1<l.length:=by omega
  rw [lang_rx hv hr] at h
  exact rx_sym hv hr c (Rx.l_sub h c hc)
theorem df_of {kk:Nat} {l:List Dm.Node} (hv:NodesOk (kk:Int) l) (hl:0<l.length) {ws:List (List Int)} {nx:Nat→Nat→Nat} {fi:Nat→Bool} (h0:0<ws.length∧ws.getD 0 []=[]) (hok:∀ a,a<ws.length→∀ c,c ∈ ws.getD a []→0≤c∧c<(kk:Int))
    (hnx:∀ i s,i<ws.length→s<kk→nx i s<ws.length∧∀ v,lang l (l.length - 1) (ws.getD (nx i s) []++v) ↔ lang l (l.length - 1) (ws.getD i []++[(s:Int)]++v)) (hfi:∀ i,i<ws.length→(fi i=true ↔ lang l (l.length - 1) (ws.getD i []))) :
    DF (lang l (l.length - 1)) kk ws.length nx fi fun i v=>lang l (l.length - 1) (ws.getD i []++v) where
  pos:=h0.1
  lt:=fun i s hi hs=>(hnx i s hi hs).1
  st:=by funext v;rw [h0.2];rfl
  fin:=fun i hi=>by rw [hfi i hi];simp
  nxt:=fun i s hi hs=>by
    funext v
    refine propext ?_
    rw [(hnx i s hi hs).2 v,List.append_assoc]
    exact Iff.rfl
  ok:=fun i v hi h c hc=>lang_syms hv hl h c (List.mem_append.2 (.inr hc))
  rch:=fun i hi=>⟨(ws.getD i []).map Int.toNat,fun c hc=>by
    obtain ⟨x,hx,rfl⟩:=List.mem_map.1 hc
    have:=hok i hi x hx
    omega,by
    funext v
    rw [fold_dvL,cast_back fun c hc=>(hok i hi c hc).1]⟩
section
variable {kk:Nat} {l:List Dm.Node} {g:Gl} {ws:List (List Int)} {NX:List (List Int)} {FI:List Int}
def suNx (NX:List (List Int)) (i s:Nat):Nat:=((NX.getD i []).getD s 0).toNat
noncomputable def suFi (g:Gl) (ws:List (List Int)) (i:Nat):Bool:=gMeet (setW g (ws.getD i [])) g.last
theorem su_nx (hN:NxOk g ws kk NX ws.length) {i s:Nat} (hi:i<ws.length) (hs:s<kk):suNx NX i s<ws.length∧setW g (ws.getD (suNx NX i s) [])=setW g (ws.getD i []++[(s:Int)]):=by
  obtain ⟨R,r1,r2⟩:=hN.2 i hi
  have e:suNx NX i s=R s:=by unfold suNx;rw [r1,rwN_getD hs,Int.toNat_natCast]
  rw [e];exact r2 s hs
theorem su_NX (hN:NxOk g ws kk NX ws.length):NX=nxR kk ws.length (suNx NX):=by
  apply List.ext_getElem
  · rw [nxR_len];exact hN.1
  · intro i h1 h2
    have hi:i<ws.length:=by rw [← hN.1];exact h1
    obtain ⟨R,r1,r2⟩:=hN.2 i hi
    have e:NX[i]=NX.getD i []:=by simp [List.getD_eq_getElem?_getD,h1]
    have e2:(nxR kk ws.length (suNx NX))[i]=rwN kk (suNx NX i):=by simp [nxR]
    rw [e,r1,e2]
    unfold rwN tab
    refine List.map_congr_left fun s hs => ?_
    have hs:=List.mem_range.1 hs
    have:suNx NX i s=R s:=by unfold suNx;rw [r1,rwN_getD hs,Int.toNat_natCast]
    rw [this]
theorem su_FI (hF:FiOk g ws FI ws.length):FI=rwN ws.length (fiN (suFi g ws)):=by
  apply List.ext_getElem
  · rw [rwN_len];exact hF.1
  · intro i h1 h2
    have hi:i<ws.length:=by rw [← hF.1];exact h1
    have e:FI[i]=FI.getD i 0:=by simp [List.getD_eq_getElem?_getD,h1]
    have e2:(rwN ws.length (fiN (suFi g ws)))[i]=((fiN (suFi g ws) i:Nat):Int):=by simp [rwN,tab]
    rw [e,hF.2 i hi,e2]
    unfold fiN suFi
    split<;>rfl
theorem su_df (hv:NodesOk (kk:Int) l) (hl:0<l.length) (hg:Gf (kk:Int) l g) (hS:SI (kk:Int) g ws) (hN:NxOk g ws kk NX ws.length):DF (lang l (l.length - 1)) kk ws.length (suNx NX) (suFi g ws) fun i v=>lang l (l.length - 1) (ws.getD i []++v) :=
  df_of hv hl hS.st hS.ok (fun i s hi hs=>⟨(su_nx hN hi hs).1,fun v=>hg.same (su_nx hN hi hs).2 v⟩) fun i hi=>hg.meet
end
end Go.Proofs.Ytpgomgjpliallaa

namespace Go.Proofs.Ytpgomgjpliallaa
open Go.Dm
theorem bl_ex {k:Int} {l:List Dm.Node} (hv:NodesOk k l):∀ {i:Nat},i<l.length→∀ u,∃ x u',Bl l i u x u':=by
  intro i
  induction i using Nat.strongRecOn with
  | _ i ih =>
    intro h u
    cases rxC hv h with
    | no e k=>exact ⟨_,_,.none (by omega)⟩
    | em e k=>exact ⟨_,_,.none (by omega)⟩
    | sy e k=>exact ⟨_,_,.sym k⟩
    | cat a b ha hb e ea eb k =>
      obtain ⟨x,u1,h1⟩:=ih a ha (by omega) u
      obtain ⟨y,u2,h2⟩:=ih b hb (by omega) u1
      exact ⟨_,_,.cat k (ea ▸ h1) (eb ▸ h2)⟩
    | or a b ha hb e ea eb k =>
      obtain ⟨x,u1,h1⟩:=ih a ha (by omega) u
      obtain ⟨y,u2,h2⟩:=ih b hb (by omega) u1
      exact ⟨_,_,.or k (ea ▸ h1) (eb ▸ h2)⟩
    | star a ha e ea k =>
      obtain ⟨x,u1,h1⟩:=ih a ha (by omega) u
      exact ⟨_,_,.star k (ea ▸ h1)⟩
theorem gf_ex {k:Int} {l:List Dm.Node} (hv:NodesOk k l) (hl:0<l.length∧l.length≤9) : ∃ g,Gf k l g:=by
  have hi:l.length - 1<l.length:=by omega
  obtain ⟨x,u,h⟩:=bl_ex hv hi au0
  refine ⟨_,gf_of hv hl.1 h ?_⟩
  have e:=(bl_rx hv h hi).1
  have h1:=rx_len hv hi
  have h2:2 ^ (l.length - 1)≤2 ^ 8:=Nat.pow_le_pow_right (by omega) (by omega)
  have a1:au0.syms.length=1:=rfl
  rw [e,List.length_append];omega
theorem ws_few {k : Int} {l : List Dm.Node} (hv : NodesOk k l) (hk : k ≤ 3) (hl : 0 < l.length ∧ l.length ≤ 9) {P : List Int → Nat → Bool} (hP : ∀ w w', w ≠ [] → w' ≠ [] → (∀ r, (rx l (l.length - 1)).R w r ↔ (rx l (l.length - 1)).R w' r) → P w = P w') {ws : List (List Int)} (hd : ∀ a b, a < ws.length → b < ws.length → P (ws.getD a []) = P (ws.getD b []) → a = b) : ws.length ≤ 3298534883330 := by
  obtain ⟨g,hg⟩:=gf_ex hv hl
  refine hg.few hv hk hl fun a b ha hb e => ?_
  by_cases e1:ws.getD a []=[]
  · by_cases e2:ws.getD b []=[]
    · exact hd a b ha hb (by rw [e1,e2])
    · -- the empty word leads to position 0 alone
      exfalso
      have h0:setW g (ws.getD a []) 0=true:=by rw [e1];exact setW_iff.2 (.nil 0)
      rw [e,setW_iff] at h0
      cases hw:ws.getD b [] with
      | nil=>exact e2 hw
      | cons c w =>
        rw [hw] at h0
        obtain ⟨r,r1,_⟩:=(hg.pw c w 0).1 h0
        omega
  · by_cases e2:ws.getD b []=[]
    · exfalso
      have h0:setW g (ws.getD b []) 0=true:=by rw [e2];exact setW_iff.2 (.nil 0)
      rw [← e,setW_iff] at h0
      cases hw:ws.getD a [] with
      | nil=>exact e1 hw
      | cons c w =>
        rw [hw] at h0
        obtain ⟨r,r1,_⟩:=(hg.pw c w 0).1 h0
        omega
    · refine hd a b ha hb (hP _ _ e1 e2 fun r => ?_)
      have conv:∀ {w:List Int},w ≠ []→((rx l (l.length - 1)).R w r ↔ setW g w (1+r)=true):=by
        intro w hw
        cases w with
        | nil=>exact absurd rfl hw
        | cons c w =>
          rw [setW_iff,hg.pw]
          exact ⟨fun h=>⟨r,rfl,h⟩,fun ⟨r',h1,h2⟩=>by rwa [show r=r' by omega]⟩
      rw [conv e1,conv e2,e]
structure Rf (kk:Nat) (l:List Dm.Node) (A:List A3) (N:Nat):Prop where
  eq:A=(rx l (l.length - 1)).ar 0∧N=(rx l (l.length - 1)).ns
  v:NodesOk (kk:Int) l
  l:0<l.length∧l.length≤9
section
variable {kk:Nat} {l:List Dm.Node} {A:List A3} {N:Nat}
theorem Rf.ge (h:Rf kk l A N):∀ c,c ∈ (rx l (l.length - 1)).s→0≤c:=fun c hc=>(rx_sym h.v (by have:=h.l;omega) c hc).1
theorem Rf.iff (h:Rf kk l A N) {w:List Int} {q:Nat}:NS A 0 w q ↔ (rx l (l.length - 1)).S 0 w q:=by
  rw [h.eq.1]
  exact ⟨Rx.ns_s h.ge,Rx.s_ns h.ge⟩
theorem Rf.lt (h:Rf kk l A N) {w:List Int} {q:Nat} (hq:NS A 0 w q):q<N:=by
  have:=Rx.s_rng (h.iff.1 hq)
  rw [h.eq.2];omega
theorem Rf.acc (h:Rf kk l A N) {w:List Int}:stW A 0 w 1=true ↔ lang l (l.length - 1) w:=by
  have hi:l.length - 1<l.length:=by have:=h.l;omega
  rw [stW_iff,h.iff,show (1:Nat)=0+1 from rfl,Rx.s_to,lang_rx h.v hi]
theorem ns_split {A : List A3} {p0 : Nat} {v : List Int} {q : Nat} {x : List Int} (h : NS A p0 x q) : ∀ {w : List Int}, x = w ++ v → ∃ p, NS A p0 w p ∧ NS A p v q := by
  induction h generalizing v with
  | nil =>
    intro w e
    have e2:=List.append_eq_nil_iff.1 e.symm
    rw [e2.1,e2.2]
    exact ⟨p0,.nil,.nil⟩
  | @step x p c q h ha ih =>
    intro w e
    by_cases hc:c = -1
    · subst hc
      rw [arW_nil] at e
      obtain ⟨p1,h1,h2⟩:=ih e
      exact ⟨p1,h1,h2.eps ha⟩
    · unfold arW at e
      rw [if_neg hc] at e
      by_cases hv:v=[]
      · subst hv
        rw [List.append_nil] at e
        refine ⟨q,?_,.nil⟩
        have:=NS.step h ha
        unfold arW at this
        rw [if_neg hc,e] at this
        exact this
      · have e3:v=v.dropLast++[v.getLast hv]:=(List.dropLast_concat_getLast hv).symm
        rw [e3,← List.append_assoc] at e
        obtain ⟨e4,e5⟩:=List.append_inj' e rfl
        rw [List.cons.injEq] at e5
        obtain ⟨p1,h1,h2⟩:=ih e4
        refine ⟨p1,h1,?_⟩
        have:=NS.step h2 ha
        unfold arW at this
        rw [if_neg hc,e5.1] at this
        rw [e3];exact this
theorem Rf.same (h:Rf kk l A N) {w w':List Int} (he:bt N (stW A 0 w)=bt N (stW A 0 w')) (v:List Int):lang l (l.length - 1) (w++v) ↔ lang l (l.length - 1) (w'++v):=by
  have one:∀ {w w':List Int},bt N (stW A 0 w)=bt N (stW A 0 w')→lang l (l.length - 1) (w++v)→lang l (l.length - 1) (w'++v):=by
    intro w w' he hw
    rw [← h.acc,stW_iff] at hw ⊢
    obtain ⟨p,h1,h2⟩:=ns_split hw rfl
    refine NS.app ?_ h2
    have hp:=h.lt h1
    have e:=congrArg (fun b=>b.getD p false) he
    simp only [bt_get hp] at e
    rw [← stW_iff,← e,stW_iff];exact h1
  exact ⟨one he,one he.symm⟩
theorem Rf.few (h:Rf kk l A N) (hk:kk≤3) {ws:List (List Int)} (hd:∀ a b,a<ws.length→b<ws.length→bt N (stW A 0 (ws.getD a []))=bt N (stW A 0 (ws.getD b []))→a=b):ws.length≤3298534883330:=by
  refine ws_few h.v (by omega) h.l (P:=stW A 0) (fun w w' hw hw' hR=>funext fun q => ?_) fun a b ha hb e=>hd a b ha hb (by rw [e])
  rw [Bool.eq_iff_iff,stW_iff,stW_iff,h.iff,h.iff,Rx.s_q hw,Rx.s_q hw']
  exact ⟨fun ⟨r,r1,r2⟩=>⟨r,(hR r).1 r1,r2⟩,fun ⟨r,r1,r2⟩=>⟨r,(hR r).2 r1,r2⟩⟩
structure RI (kk:Nat) (A:List A3) (N:Nat) (ws:List (List Int)):Prop where
  st:0<ws.length∧ws.getD 0 []=[]
  inj:∀ a b,a<ws.length→b<ws.length→bt N (stW A 0 (ws.getD a []))=bt N (stW A 0 (ws.getD b []))→a=b
  ok:∀ a,a<ws.length→∀ c,c ∈ ws.getD a []→0≤c∧c<(kk:Int)
def RwR (A:List A3) (N:Nat) (ws:List (List Int)) (w:List Int) (m:Nat) (R:Nat→Nat):Prop:=∀ s:Nat,s<m→R s<ws.length∧bt N (stW A 0 (ws.getD (R s) []))=bt N (stW A 0 (w++[(s:Int)]))
def NxR (A:List A3) (N:Nat) (ws:List (List Int)) (kk:Nat) (nx:Nat→Nat→Nat) (i:Nat):Prop:=∀ a,a<i→RwR A N ws (ws.getD a []) kk (nx a)
variable {ws:List (List Int)} {w:List Int}
theorem RI.push (h : RI kk A N ws) (hw : ∀ c, c ∈ w → 0 ≤ c ∧ c < (kk : Int)) (hno : ∀ a, a < ws.length → bt N (stW A 0 (ws.getD a [])) ≠ bt N (stW A 0 w)) : RI kk A N (ws ++ [w]) := by
  have hl:(ws++[w]).length=ws.length+1:=by simp
  refine ⟨⟨by omega,by rw [getD_appL h.st.1];exact h.st.2⟩,fun a b ha hb e => ?_,fun a ha c hc => ?_⟩
  · rw [hl] at ha hb
    by_cases ea:a=ws.length
    · by_cases eb:b=ws.length
      · omega
      · rw [ea,getD_appR,getD_appL (by omega)] at e
        exact absurd e.symm (hno b (by omega))
    · by_cases eb:b=ws.length
      · rw [eb,getD_appR,getD_appL (by omega)] at e
        exact absurd e (hno a (by omega))
      · rw [getD_appL (by omega),getD_appL (by omega)] at e
        exact h.inj a b (by omega) (by omega) e
  · rw [hl] at ha
    by_cases ea:a=ws.length
    · rw [ea,getD_appR] at hc;exact hw c hc
    · rw [getD_appL (by omega)] at hc;exact h.ok a (by omega) c hc
theorem RwR.app {v:List Int} {m:Nat} {R:Nat→Nat} (h:RwR A N ws v m R):RwR A N (ws++[w]) v m R:=fun s hs=>by
  obtain ⟨h1,h2⟩:=h s hs
  exact ⟨by rw [List.length_append];omega,by rw [getD_appL h1];exact h2⟩
theorem NxR.app {nx:Nat→Nat→Nat} {i:Nat} (h:NxR A N ws kk nx i) (hi:i≤ws.length):NxR A N (ws++[w]) kk nx i:=fun a ha=>by
  rw [getD_appL (by omega)];exact (h a ha).app
theorem RwR.step {v:List Int} {m r:Nat} {R:Nat→Nat} (h:RwR A N ws v m R) (hr:r<ws.length) (he:bt N (stW A 0 (ws.getD r []))=bt N (stW A 0 (v++[(m:Int)]))):RwR A N ws v (m+1) fun b=>if b=m then r else R b:=fun s hs=>by
  by_cases e:s=m
  · subst e;simp only [if_true];exact ⟨hr,he⟩
  · simp only [if_neg e];exact h s (by omega)
theorem NxR.step {nx:Nat→Nat→Nat} {R:Nat→Nat} {i:Nat} (h:NxR A N ws kk nx i) (hR:RwR A N ws (ws.getD i []) kk R):NxR A N ws kk (fun a=>if a=i then R else nx a) (i+1):=fun a ha=>by
  by_cases e:a=i
  · subst e;simp only [if_true];exact hR
  · simp only [if_neg e];exact h a (by omega)
theorem RI.df (h:Rf kk l A N) (hS:RI kk A N ws) {nx:Nat→Nat→Nat} (hN:NxR A N ws kk nx ws.length):DF (lang l (l.length - 1)) kk ws.length nx (fun i=>stW A 0 (ws.getD i []) 1) fun i v=>lang l (l.length - 1) (ws.getD i []++v) :=
  df_of h.v h.l.1 hS.st hS.ok (fun i s hi hs=>⟨(hN i hi s hs).1,fun v=>h.same (hN i hi s hs).2 v⟩) fun i hi=>h.acc
end
def arT (A:List A3) (s:Int) (f:Nat→Bool) (j q:Nat):Bool:=(A.take j).any fun a=>decide (a.2.1=s) && f a.1 && decide (a.2.2=q)
theorem arT_zero {A:List A3} {s:Int} {f:Nat→Bool}:arT A s f 0=fun _=>false:=funext fun q=>by simp [arT]
theorem arT_hit {A:List A3} {s:Int} {f:Nat→Bool} {j p t:Nat} (hj:j<A.length) (ha:A.getD j default=(p,s,t)) (hp:f p=true):(fun q=>if q=t then true else arT A s f j q)=arT A s f (j+1):=funext fun q=>by
  unfold arT
  rw [take_succ_getD hj default,List.any_append,ha]
  by_cases e:q=t
  · simp [e,hp]
  · have:¬ t=q:=fun h=>e h.symm
    simp [e,this]
theorem arT_skip {A:List A3} {s c:Int} {f:Nat→Bool} {j p t:Nat} (hj:j<A.length) (ha:A.getD j default=(p,c,t)) (hp:¬ (c=s∧f p=true)):arT A s f (j+1)=arT A s f j:=funext fun q=>by
  unfold arT
  rw [take_succ_getD hj default,List.any_append,ha]
  by_cases e:c=s
  · have:f p=false:=by
      cases h:f p with
      | false=>rfl
      | true=>exact absurd ⟨e,h⟩ hp
    simp [this]
  · simp [e]
theorem arT_all {A:List A3} {s:Int} {f:Nat→Bool} {q:Nat}:arT A s f A.length q=true ↔ ∃ p,(p,s,q) ∈ A∧f p=true:=by
  unfold arT
  rw [List.take_length,List.any_eq_true]
  constructor
  · rintro ⟨⟨p,c,t⟩,h1,h2⟩
    simp only [Bool.and_eq_true,decide_eq_true_eq] at h2
    obtain ⟨⟨rfl,h3⟩,rfl⟩:=h2
    exact ⟨p,h1,h3⟩
  · rintro ⟨p,h1,h2⟩
    exact ⟨(p,s,q),h1,by simp [h2]⟩
end Go.Proofs.Ytpgomgjpliallaa

namespace Go.Proofs.Ytpgomgjpliallaa
open Go.Dm
theorem ext_d {α:Type} {a b:List α} {d:α} (hl:a.length=b.length) (h:∀ j,j<a.length→a.getD j d=b.getD j d):a=b:=by
  apply List.ext_getElem hl
  intro j h1 h2
  have:=h j h1
  simpa [List.getD,h1,h2] using this
set_option maxRecDepth 10000 in
set_option maxHeartbeats 4000000 in
theorem intsM_spec (a b:List Int) (ha:a.length≤9223372036854775807) (hb:b.length≤9223372036854775807):Dm.Spec Try.prog 27 [.sl 1 (i64s a),.sl 1 (i64s b)] (·=.v (.bool (decide (a=b)))):=by
  refine spec_of_vc mixed Try.func27 c27 (by rw [show Try.f27.ntmps=_ from Try.ntmps27];simp) ?_
  unfold m27 r27
  repeat' first|((first|refine Br.dec ?_ ?_|refine Br.eqi ?_ ?_)<;>intro h<;>try (exfalso;omega))|(simp (disch:=first|omega|(simp only [vlen];first|done|omega)) only [↓vAq,vBq,↓reduceIte,Nat.reduceBEq,Nat.reduceEqDiff,Nat.reduceLT,Nat.reduceLeDiff,Nat.reduceAdd,Nat.reduceMul,Nat.reduceSub,reduceCtorEq,Int.reduceToNat])|(refine Br.mk ?_ ?_<;>intro h)|(refine BrN.mk (fun h => ?_) ?_)|(refine AltVC.mk ?_ ?_)
  · refine LoopVC.mk (X:=Nat) (fun i=>[(5,iv .i64 i)]) (fun _=>[]) (fun i=>a.length - i) (fun i=>i≤a.length∧∀ j,j<i→a.getD j 0=b.getD j 0) 0 ⟨by omega,by omega⟩ ?_ ?_
    · (simp (disch:=first|omega|(simp only [vlen];first|done|omega)) only [Fits_u,Fits_m,Fits_nil,List.length_append,↓vAq,vBq,↓reduceIte,Nat.reduceBEq,Nat.reduceEqDiff,Nat.reduceLT,Nat.reduceLeDiff,Nat.reduceAdd,Nat.reduceMul,Nat.reduceSub,reduceCtorEq,Int.reduceToNat]<;>(repeat' first|rfl|apply And.intro))
    · rintro i ⟨h1,h2⟩
      repeat' first|((first|refine Br.dec ?_ ?_|refine Br.eqi ?_ ?_)<;>intro h<;>try (exfalso;omega))|(simp (disch:=first|omega|(simp only [vlen];first|done|omega)) only [↓vAq,vBq,↓reduceIte,Nat.reduceBEq,Nat.reduceEqDiff,Nat.reduceLT,Nat.reduceLeDiff,Nat.reduceAdd,Nat.reduceMul,Nat.reduceSub,reduceCtorEq,Int.reduceToNat])|(refine Br.mk ?_ ?_<;>intro h)|(refine BrN.mk (fun h => ?_) ?_)|(refine AltVC.mk ?_ ?_)
      · exact loopK.mk (i+1) (by simp (disch:=first|omega|(simp only [vlen];first|done|omega)) only [↓vAq,vBq,↓reduceIte,Nat.reduceBEq,Nat.reduceEqDiff,Nat.reduceLT,Nat.reduceLeDiff,Nat.reduceAdd,Nat.reduceMul,Nat.reduceSub,reduceCtorEq,Int.reduceToNat]) ⟨by omega,succ_all h2 (by assumption)⟩ (by omega) (by (simp (disch:=first|omega|(simp only [vlen];first|done|omega)) only [Fits_u,Fits_m,Fits_nil,List.length_append,↓vAq,vBq,↓reduceIte,Nat.reduceBEq,Nat.reduceEqDiff,Nat.reduceLT,Nat.reduceLeDiff,Nat.reduceAdd,Nat.reduceMul,Nat.reduceSub,reduceCtorEq,Int.reduceToNat]<;>(repeat' first|rfl|apply And.intro)))
      · exact fin_mk (vbEq (decide_eq_false (fun e=>by subst e;contradiction)).symm)
      · exact fin_mk (vbEq (decide_eq_true (ext_d (d:=0) (by omega) (fun j hj=>h2 j (by omega)))).symm)
  · exact fin_mk (vbEq (by rw [decide_eq_false (fun e=>by subst e;omega)]))
set_option maxRecDepth 10000 in
set_option maxHeartbeats 4000000 in
theorem listsM_nil (z:Unit):Dm.Spec Try.prog 19 [.nl,.nl] (·=.v (.bool true)):=by
  refine spec_of_vc mixed Try.func19 c19 (by rw [show Try.f19.ntmps=_ from Try.ntmps19];simp) ?_
  unfold m19 r19
  repeat' first|((first|refine Br.dec ?_ ?_|refine Br.eqi ?_ ?_)<;>intro h<;>try (exfalso;omega))|(simp (disch:=first|omega|(simp only [vlen];first|done|omega)) only [↓vAq,vBq,↓reduceIte,Nat.reduceBEq,Nat.reduceEqDiff,Nat.reduceLT,Nat.reduceLeDiff,Nat.reduceAdd,Nat.reduceMul,Nat.reduceSub,reduceCtorEq,Int.reduceToNat])|(refine Br.mk ?_ ?_<;>intro h)|(refine BrN.mk (fun h => ?_) ?_)|(refine AltVC.mk ?_ ?_)
  refine LoopVC.mk (X:=Unit) (fun i=>[(5,iv .i64 0)]) (fun _=>[]) (fun i=>0) (fun i=>True) () trivial ?_ ?_
  · (simp (disch:=first|omega|(simp only [vlen];first|done|omega)) only [Fits_u,Fits_m,Fits_nil,List.length_append,↓vAq,vBq,↓reduceIte,Nat.reduceBEq,Nat.reduceEqDiff,Nat.reduceLT,Nat.reduceLeDiff,Nat.reduceAdd,Nat.reduceMul,Nat.reduceSub,reduceCtorEq,Int.reduceToNat]<;>(repeat' first|rfl|apply And.intro))
  · intro i h1
    repeat' first|((first|refine Br.dec ?_ ?_|refine Br.eqi ?_ ?_)<;>intro h<;>try (exfalso;omega))|(simp (disch:=first|omega|(simp only [vlen];first|done|omega)) only [↓vAq,vBq,↓reduceIte,Nat.reduceBEq,Nat.reduceEqDiff,Nat.reduceLT,Nat.reduceLeDiff,Nat.reduceAdd,Nat.reduceMul,Nat.reduceSub,reduceCtorEq,Int.reduceToNat])|(refine Br.mk ?_ ?_<;>intro h)|(refine BrN.mk (fun h => ?_) ?_)|(refine AltVC.mk ?_ ?_)
    exact fin_mk rfl
set_option maxRecDepth 10000 in
set_option maxHeartbeats 4000000 in
theorem listsM_spec (a b : List (List Int)) (ha : a.length ≤ 9223372036854775807) (hb : b.length ≤ 9223372036854775807) (ha' : ∀ l, l ∈ a → l.length ≤ 9223372036854775807) (hb' : ∀ l, l ∈ b → l.length ≤ 9223372036854775807) : Dm.Spec Try.prog 19 [.sl 1 (rows i64s a), .sl 1 (rows i64s b)] (· = .v (.bool (decide (a = b)))) := by
  refine spec_of_vc mixed Try.func19 c19 (by rw [show Try.f19.ntmps=_ from Try.ntmps19];simp) ?_
  unfold m19 r19
  repeat' first|((first|refine Br.dec ?_ ?_|refine Br.eqi ?_ ?_)<;>intro h<;>try (exfalso;omega))|(simp (disch:=first|omega|(simp only [vlen];first|done|omega)) only [↓vAq,vBq,↓reduceIte,Nat.reduceBEq,Nat.reduceEqDiff,Nat.reduceLT,Nat.reduceLeDiff,Nat.reduceAdd,Nat.reduceMul,Nat.reduceSub,reduceCtorEq,Int.reduceToNat])|(refine Br.mk ?_ ?_<;>intro h)|(refine BrN.mk (fun h => ?_) ?_)|(refine AltVC.mk ?_ ?_)
  · refine LoopVC.mk (X:=Nat) (fun i=>[(5,iv .i64 i)]) (fun _=>[]) (fun i=>a.length - i) (fun i=>i≤a.length∧∀ j,j<i→a.getD j default=b.getD j default) 0 ⟨by omega,by omega⟩ ?_ ?_
    · (simp (disch:=first|omega|(simp only [vlen];first|done|omega)) only [Fits_u,Fits_m,Fits_nil,List.length_append,↓vAq,vBq,↓reduceIte,Nat.reduceBEq,Nat.reduceEqDiff,Nat.reduceLT,Nat.reduceLeDiff,Nat.reduceAdd,Nat.reduceMul,Nat.reduceSub,reduceCtorEq,Int.reduceToNat]<;>(repeat' first|rfl|apply And.intro))
    · rintro i ⟨h1,h2⟩
      repeat' first|((first|refine Br.dec ?_ ?_|refine Br.eqi ?_ ?_)<;>intro h<;>try (exfalso;omega))|(simp (disch:=first|omega|(simp only [vlen];first|done|omega)) only [↓vAq,vBq,↓reduceIte,Nat.reduceBEq,Nat.reduceEqDiff,Nat.reduceLT,Nat.reduceLeDiff,Nat.reduceAdd,Nat.reduceMul,Nat.reduceSub,reduceCtorEq,Int.reduceToNat])|(refine Br.mk ?_ ?_<;>intro h)|(refine BrN.mk (fun h => ?_) ?_)|(refine AltVC.mk ?_ ?_)
      · refine CallVC.eq (intsM_spec _ _ (ha' _ (getD_mem' (by omega))) (hb' _ (getD_mem' (by omega)))) ?_
        repeat' first|((first|refine Br.dec ?_ ?_|refine Br.eqi ?_ ?_)<;>intro h<;>try (exfalso;omega))|(simp (disch:=first|omega|(simp only [vlen];first|done|omega)) only [↓vAq,vBq,↓reduceIte,Nat.reduceBEq,Nat.reduceEqDiff,Nat.reduceLT,Nat.reduceLeDiff,Nat.reduceAdd,Nat.reduceMul,Nat.reduceSub,reduceCtorEq,Int.reduceToNat])|(refine Br.mk ?_ ?_<;>intro h)|(refine BrN.mk (fun h => ?_) ?_)|(refine AltVC.mk ?_ ?_)
        · exact loopK.mk (i+1) (by simp (disch:=first|omega|(simp only [vlen];first|done|omega)) only [↓vAq,vBq,↓reduceIte,Nat.reduceBEq,Nat.reduceEqDiff,Nat.reduceLT,Nat.reduceLeDiff,Nat.reduceAdd,Nat.reduceMul,Nat.reduceSub,reduceCtorEq,Int.reduceToNat]) ⟨by omega,succ_all h2 (by assumption)⟩ (by omega) (by (simp (disch:=first|omega|(simp only [vlen];first|done|omega)) only [Fits_u,Fits_m,Fits_nil,List.length_append,↓vAq,vBq,↓reduceIte,Nat.reduceBEq,Nat.reduceEqDiff,Nat.reduceLT,Nat.reduceLeDiff,Nat.reduceAdd,Nat.reduceMul,Nat.reduceSub,reduceCtorEq,Int.reduceToNat]<;>(repeat' first|rfl|apply And.intro)))
        · exact fin_mk (vbEq (decide_eq_false (fun e=>by subst e;contradiction)).symm)
      · exact fin_mk (vbEq (decide_eq_true (ext_d (d:=default) (by omega) (fun j hj=>h2 j (by omega)))).symm)
  · exact fin_mk (vbEq (by rw [decide_eq_false (fun e=>by subst e;omega)]))
abbrev mzD:List D:=[iv .i64 0,iv .i64 0,.nl,iv .i64 0,iv .u32 0]
set_option maxRecDepth 10000 in
set_option maxHeartbeats 4000000 in
theorem same_nil (z:Unit):Dm.Spec Try.prog 8 [.ag mzD,.ag mzD] (·=.v (.bool true)):=by
  refine spec_of_vc mixed Try.func8 c8 (by rw [show Try.f8.ntmps=_ from Try.ntmps8];simp) ?_
  unfold m8 r8
  repeat' first|((first|refine Br.dec ?_ ?_|refine Br.eqi ?_ ?_)<;>intro h<;>try (exfalso;omega))|(simp (disch:=first|omega|(simp only [vlen];first|done|omega)) only [↓vAq,vBq,↓reduceIte,Nat.reduceBEq,Nat.reduceEqDiff,Nat.reduceLT,Nat.reduceLeDiff,Nat.reduceAdd,Nat.reduceMul,Nat.reduceSub,reduceCtorEq,Int.reduceToNat])|(refine Br.mk ?_ ?_<;>intro h)|(refine BrN.mk (fun h => ?_) ?_)|(refine AltVC.mk ?_ ?_)
  refine CallVC.eq (listsM_nil ()) ?_
  repeat' first|((first|refine Br.dec ?_ ?_|refine Br.eqi ?_ ?_)<;>intro h<;>try (exfalso;omega))|(simp (disch:=first|omega|(simp only [vlen];first|done|omega)) only [↓vAq,vBq,↓reduceIte,Nat.reduceBEq,Nat.reduceEqDiff,Nat.reduceLT,Nat.reduceLeDiff,Nat.reduceAdd,Nat.reduceMul,Nat.reduceSub,reduceCtorEq,Int.reduceToNat])|(refine Br.mk ?_ ?_<;>intro h)|(refine BrN.mk (fun h => ?_) ?_)|(refine AltVC.mk ?_ ?_)
  exact fin_mk rfl
set_option maxRecDepth 10000 in
set_option maxHeartbeats 4000000 in
theorem zeroM_spec (z:Unit):Dm.Spec Try.prog 6 [.ag mzD] (·=.v (.bool true)):=by
  refine spec_of_vc mixed Try.func6 c6 (by rw [show Try.f6.ntmps=_ from Try.ntmps6];simp) ?_
  unfold m6 r6
  repeat' first|((first|refine Br.dec ?_ ?_|refine Br.eqi ?_ ?_)<;>intro h<;>try (exfalso;omega))|(simp (disch:=first|omega|(simp only [vlen];first|done|omega)) only [↓vAq,vBq,↓reduceIte,Nat.reduceBEq,Nat.reduceEqDiff,Nat.reduceLT,Nat.reduceLeDiff,Nat.reduceAdd,Nat.reduceMul,Nat.reduceSub,reduceCtorEq,Int.reduceToNat])|(refine Br.mk ?_ ?_<;>intro h)|(refine BrN.mk (fun h => ?_) ?_)|(refine AltVC.mk ?_ ?_)
  refine CallVC.eq (same_nil ()) ?_
  repeat' first|((first|refine Br.dec ?_ ?_|refine Br.eqi ?_ ?_)<;>intro h<;>try (exfalso;omega))|(simp (disch:=first|omega|(simp only [vlen];first|done|omega)) only [↓vAq,vBq,↓reduceIte,Nat.reduceBEq,Nat.reduceEqDiff,Nat.reduceLT,Nat.reduceLeDiff,Nat.reduceAdd,Nat.reduceMul,Nat.reduceSub,reduceCtorEq,Int.reduceToNat])|(refine Br.mk ?_ ?_<;>intro h)|(refine BrN.mk (fun h => ?_) ?_)|(refine AltVC.mk ?_ ?_)
  exact fin_mk rfl
set_option maxRecDepth 10000 in
set_option maxHeartbeats 4000000 in
theorem sameM_spec (m:Dm.Machine) (hr:m.next.length≤9223372036854775807) (hq:∀ l,l ∈ m.next→l.length≤9223372036854775807):Dm.Spec Try.prog 8 [.ag (macD m),.ag (macD m)] (·=.v (.bool true)):=by
  refine spec_of_vc mixed Try.func8 c8 (by rw [show Try.f8.ntmps=_ from Try.ntmps8];simp) ?_
  unfold m8 r8
  repeat' first|((first|refine Br.dec ?_ ?_|refine Br.eqi ?_ ?_)<;>intro h<;>try (exfalso;omega))|(simp (disch:=first|omega|(simp only [vlen];first|done|omega)) only [↓vAq,vBq,↓reduceIte,Nat.reduceBEq,Nat.reduceEqDiff,Nat.reduceLT,Nat.reduceLeDiff,Nat.reduceAdd,Nat.reduceMul,Nat.reduceSub,reduceCtorEq,Int.reduceToNat])|(refine Br.mk ?_ ?_<;>intro h)|(refine BrN.mk (fun h => ?_) ?_)|(refine AltVC.mk ?_ ?_)
  refine CallVC.eq (listsM_spec m.next m.next hr hr hq hq) ?_
  repeat' first|((first|refine Br.dec ?_ ?_|refine Br.eqi ?_ ?_)<;>intro h<;>try (exfalso;omega))|(simp (disch:=first|omega|(simp only [vlen];first|done|omega)) only [↓vAq,vBq,↓reduceIte,Nat.reduceBEq,Nat.reduceEqDiff,Nat.reduceLT,Nat.reduceLeDiff,Nat.reduceAdd,Nat.reduceMul,Nat.reduceSub,reduceCtorEq,Int.reduceToNat])|(refine Br.mk ?_ ?_<;>intro h)|(refine BrN.mk (fun h => ?_) ?_)|(refine AltVC.mk ?_ ?_)
  exact fin_mk rfl
end Go.Proofs.Ytpgomgjpliallaa

namespace Go.Proofs.Ytpgomgjpliallaa
open Go.Dm
theorem rwN_app {m st:Nat} {F:Nat→Nat}:rwN m F++[((st:Nat):Int)]=rwN (m+1) fun j=>if j=m then st else F j:=by
  unfold rwN tab
  rw [List.range_succ,List.map_append,List.map_singleton]
  show _=_++[(((if m=m then st else F m:Nat)):Int)]
  rw [if_pos rfl]
  congr 1
  refine List.map_congr_left fun j hj => ?_
  have:=List.mem_range.1 hj
  show _=(((if j=m then st else F j:Nat)):Int)
  rw [if_neg (by omega)]
theorem rwN_appD {m st:Nat} {F:Nat→Nat}:i64s (rwN m F)++[[.v (.int .i64 ((st:Nat):Int))]]=i64s (rwN (m+1) fun j=>if j=m then st else F j):=by rw [← rwN_app];simp [i64s]
theorem leastN {p:Nat→Prop} {m x:Nat} (hx:x<m) (h:p x) : ∃ r,r<m∧p r∧∀ j,j<r→¬ p j:=by
  induction x using Nat.strongRecOn with
  | _ x ih =>
    by_cases hy : ∃ j,j<x∧p j
    · obtain ⟨j,h1,h2⟩:=hy
      exact ih j h1 (by omega) h2
    · exact ⟨x,hx,h,fun j hj hp=>hy ⟨j,hj,hp⟩⟩
def vsn:=And.intro vsf<|And.intro @rwN_appD @rwN_app
set_option maxRecDepth 10000 in
set_option maxHeartbeats 4000000 in
theorem sameK_spec (n:Nat) (c:Nat→Nat) (x st:Nat) (hx:x<n) (hs:st<n):Dm.Spec Try.prog 14 [iv .i64 x,.ip [.sl 1 (i64s (rwN n c))] 0,.ip [iv .i64 st] 0] (·=.v (.bool (decide (c x=c st)))):=by
  refine spec_of_vc mixed Try.func14 c14 (by rw [show Try.f14.ntmps=_ from Try.ntmps14];simp) ?_
  unfold m14 r14
  repeat' first|((first|refine Br.dec ?_ ?_|refine Br.eqi ?_ ?_)<;>intro h<;>try (exfalso;omega))|(simp (disch:=first|omega|(simp only [vlen];first|done|omega)) only [vsn,↓vAq,vBq,↓reduceIte,Nat.reduceBEq,Nat.reduceEqDiff,Nat.reduceLT,Nat.reduceLeDiff,Nat.reduceAdd,Nat.reduceMul,Nat.reduceSub,reduceCtorEq,Int.reduceToNat])|(refine Br.mk ?_ ?_<;>intro h)|(refine BrN.mk (fun h => ?_) ?_)|(refine AltVC.mk ?_ ?_)
  exact fin_mk (vbEq (by rw [Bool.eq_iff_iff,decide_eq_true_eq,beq_iff_eq];exact Int.ofNat_inj))
def nuO (n:Nat) (c:Nat→Nat) (m:Nat) (F:Nat→Nat):List Ob:=[⟨1,[[.ref 2 1 0 m]],false,false,.fix⟩,⟨1,[[.sl 1 (i64s (rwN n c))]],true,false,.fix⟩,⟨1,i64s (rwN m F),true,false,.arr⟩]
def nuR (n:Nat) (c:Nat→Nat) (m:Nat) (F:Nat→Nat) (st:Nat) (d:D) (o:List (Option Ob)):Prop := ∃ r m' F',d=iv .i64 (r:Nat)∧o=(nuO n c m' F').map some∧((m'=m∧F'=F∧r<m∧c (F r)=c st)∨(m'=m+1∧F'=(fun j=>if j=m then st else F j)∧r=m∧∀ j,j<m→c (F j) ≠ c st))
theorem nu_fin {n:Nat} {c:Nat→Nat} {m:Nat} {F:Nat→Nat} {st:Nat} {s:S} {d:D} (r m':Nat) (F':Nat→Nat) (h1:3≤s.N) (h2:fitL s 3 0 ((nuO n c m' F').map some)) (hd:d.trim 3=iv .i64 (r:Nat)) (h:(m'=m∧F'=F∧r<m∧c (F r)=c st)∨(m'=m+1∧F'=(fun j=>if j=m then st else F j)∧r=m∧∀ j,j<m→c (F j) ≠ c st)):FinH 3 (nuR n c m F st) s d :=
  finH_mk ((nuO n c m' F').map some) (Nat.le_refl _) h1 h2 ⟨r,m',F',hd,rfl,h⟩
set_option maxRecDepth 10000 in
set_option maxHeartbeats 4000000 in
theorem number_spec (n:Nat) (c:Nat→Nat) (m:Nat) (F:Nat→Nat) (hm:m≤100) (hF:∀ j,j<m→F j<n) (st:Nat) (hs:st<n) (hn:n≤3298534883330):Dm.SpecH Try.prog 12 [iv .i64 st,.ptr 0 1 0 0,.ptr 1 1 0 0] (nuO n c m F) (nuR n c m F st):=by
  refine specH_of_vc mixed Try.func12 c12 (by rw [show Try.f12.ntmps=_ from Try.ntmps12];simp) ?_
  unfold m12 r12
  have hI:=idxF_int (rwN m F) (fun a=>decide (c a.toNat=c st)) 14 [.ip [.sl 1 (i64s (rwN n c))] 0,.ip [iv .i64 st] 0] (by rw [rwN_len];omega) (by simp (disch:=first|omega|(simp only [vlen];first|done|omega)) only [vsn,↓vAq,vBq,↓reduceIte,Nat.reduceBEq,Nat.reduceEqDiff,Nat.reduceLT,Nat.reduceLeDiff,Nat.reduceAdd,Nat.reduceMul,Nat.reduceSub,reduceCtorEq,Int.reduceToNat]) (fun a ha=>by
    obtain ⟨j,hj,rfl⟩:=List.getElem_of_mem ha
    have hjm:j<m:=by rw [rwN_len] at hj;exact hj
    have e:(rwN m F)[j]=((F j:Nat):Int):=by simp [rwN,tab]
    rw [e,Int.toNat_natCast]
    exact sameK_spec n c (F j) st (hF j hjm) hs)
  have hget:∀ j,j<m→(rwN m F).getD j default=((F j:Nat):Int):=fun j hj=>rwN_getD hj
  unfold nuO
  by_cases hx : ∃ j,j<m∧c (F j)=c st
  · obtain ⟨j,hj,he⟩:=hx
    obtain ⟨r,r1,r2,r3⟩:=leastN (p:=fun j=>c (F j)=c st) hj he
    rw [idxOf_hit (i:=r) (by rw [rwN_len];exact r1) (by rw [hget r r1,Int.toNat_natCast];exact decide_eq_true r2) (fun j hj=>by rw [hget j (by omega),Int.toNat_natCast];exact decide_eq_false (r3 j hj))] at hI
    repeat' first|((first|refine Br.dec ?_ ?_|refine Br.eqi ?_ ?_)<;>intro h<;>try (exfalso;omega))|(simp (disch:=first|omega|(simp only [vlen];first|done|omega)) only [vsn,↓vAq,vBq,↓reduceIte,Nat.reduceBEq,Nat.reduceEqDiff,Nat.reduceLT,Nat.reduceLeDiff,Nat.reduceAdd,Nat.reduceMul,Nat.reduceSub,reduceCtorEq,Int.reduceToNat])|(refine Br.mk ?_ ?_<;>intro h)|(refine BrN.mk (fun h => ?_) ?_)|(refine AltVC.mk ?_ ?_)
    refine CallVC.eqo hI (by simp (disch:=first|omega|(simp only [vlen];first|done|omega)) only [vsn,↓vAq,vBq,↓reduceIte,Nat.reduceBEq,Nat.reduceEqDiff,Nat.reduceLT,Nat.reduceLeDiff,Nat.reduceAdd,Nat.reduceMul,Nat.reduceSub,reduceCtorEq,Int.reduceToNat]) ?_
    repeat' first|((first|refine Br.dec ?_ ?_|refine Br.eqi ?_ ?_)<;>intro h<;>try (exfalso;omega))|(simp (disch:=first|omega|(simp only [vlen];first|done|omega)) only [vsn,↓vAq,vBq,↓reduceIte,Nat.reduceBEq,Nat.reduceEqDiff,Nat.reduceLT,Nat.reduceLeDiff,Nat.reduceAdd,Nat.reduceMul,Nat.reduceSub,reduceCtorEq,Int.reduceToNat])|(refine Br.mk ?_ ?_<;>intro h)|(refine BrN.mk (fun h => ?_) ?_)|(refine AltVC.mk ?_ ?_)
    exact nu_fin r m F (by simp (disch:=first|omega|(simp only [vlen];first|done|omega)) only [vsn,↓vAq,vBq,↓reduceIte,Nat.reduceBEq,Nat.reduceEqDiff,Nat.reduceLT,Nat.reduceLeDiff,Nat.reduceAdd,Nat.reduceMul,Nat.reduceSub,reduceCtorEq,Int.reduceToNat]) (by unfold nuO;simp (disch:=first|omega|(simp only [vlen];first|done|omega)) only [vsn,↓vAq,vBq,↓reduceIte,Nat.reduceBEq,Nat.reduceEqDiff,Nat.reduceLT,Nat.reduceLeDiff,Nat.reduceAdd,Nat.reduceMul,Nat.reduceSub,reduceCtorEq,Int.reduceToNat]) (by simp (disch:=first|omega|(simp only [vlen];first|done|omega)) only [vsn,↓vAq,vBq,↓reduceIte,Nat.reduceBEq,Nat.reduceEqDiff,Nat.reduceLT,Nat.reduceLeDiff,Nat.reduceAdd,Nat.reduceMul,Nat.reduceSub,reduceCtorEq,Int.reduceToNat]) (.inl ⟨rfl,rfl,r1,r2⟩)
  · have hno:∀ j,j<m→c (F j) ≠ c st:=fun j hj e=>hx ⟨j,hj,e⟩
    rw [idxOf_miss (i:=m) (by rw [rwN_len];exact Nat.le_refl _) (fun j hj=>by rw [hget j hj,Int.toNat_natCast];exact decide_eq_false (hno j hj))] at hI
    repeat' first|((first|refine Br.dec ?_ ?_|refine Br.eqi ?_ ?_)<;>intro h<;>try (exfalso;omega))|(simp (disch:=first|omega|(simp only [vlen];first|done|omega)) only [vsn,↓vAq,vBq,↓reduceIte,Nat.reduceBEq,Nat.reduceEqDiff,Nat.reduceLT,Nat.reduceLeDiff,Nat.reduceAdd,Nat.reduceMul,Nat.reduceSub,reduceCtorEq,Int.reduceToNat])|(refine Br.mk ?_ ?_<;>intro h)|(refine BrN.mk (fun h => ?_) ?_)|(refine AltVC.mk ?_ ?_)
    refine CallVC.eqo hI (by simp (disch:=first|omega|(simp only [vlen];first|done|omega)) only [vsn,↓vAq,vBq,↓reduceIte,Nat.reduceBEq,Nat.reduceEqDiff,Nat.reduceLT,Nat.reduceLeDiff,Nat.reduceAdd,Nat.reduceMul,Nat.reduceSub,reduceCtorEq,Int.reduceToNat]) ?_
    repeat' first|((first|refine Br.dec ?_ ?_|refine Br.eqi ?_ ?_)<;>intro h<;>try (exfalso;omega))|(simp (disch:=first|omega|(simp only [vlen];first|done|omega)) only [vsn,↓vAq,vBq,↓reduceIte,Nat.reduceBEq,Nat.reduceEqDiff,Nat.reduceLT,Nat.reduceLeDiff,Nat.reduceAdd,Nat.reduceMul,Nat.reduceSub,reduceCtorEq,Int.reduceToNat])|(refine Br.mk ?_ ?_<;>intro h)|(refine BrN.mk (fun h => ?_) ?_)|(refine AltVC.mk ?_ ?_)
    exact nu_fin m (m+1) (fun j=>if j=m then st else F j) (by simp (disch:=first|omega|(simp only [vlen];first|done|omega)) only [vsn,↓vAq,vBq,↓reduceIte,Nat.reduceBEq,Nat.reduceEqDiff,Nat.reduceLT,Nat.reduceLeDiff,Nat.reduceAdd,Nat.reduceMul,Nat.reduceSub,reduceCtorEq,Int.reduceToNat]) (by unfold nuO;simp (disch:=first|omega|(simp only [vlen];first|done|omega)) only [vsn,↓vAq,vBq,↓reduceIte,Nat.reduceBEq,Nat.reduceEqDiff,Nat.reduceLT,Nat.reduceLeDiff,Nat.reduceAdd,Nat.reduceMul,Nat.reduceSub,reduceCtorEq,Int.reduceToNat]) (by simp (disch:=first|omega|(simp only [vlen];first|done|omega)) only [vsn,↓vAq,vBq,↓reduceIte,Nat.reduceBEq,Nat.reduceEqDiff,Nat.reduceLT,Nat.reduceLeDiff,Nat.reduceAdd,Nat.reduceMul,Nat.reduceSub,reduceCtorEq,Int.reduceToNat]) (.inr ⟨rfl,rfl,rfl,hno⟩)
end Go.Proofs.Ytpgomgjpliallaa

namespace Go.Proofs.Ytpgomgjpliallaa
open Go.Dm
def suZ (L:Lg) (k:Nat) (y n:D) (d:D):Prop:=(Big L k∧d=.tu [.ag mzD,n])∨(¬ Big L k ∧ ∃ m,Fx L k m∧m≤7∧d=.tu [.ag (macD (bfM L k m)),y])
theorem bfM_next {L:Lg} {k m:Nat}:(bfM L k m).next=nxR k m (bfN L k):=rfl
theorem nxR_app {k m:Nat} {f:Nat→Nat→Nat}:nxR k m f++[rwN k (f m)]=nxR k (m+1) f:=by
  unfold nxR
  rw [List.range_succ,List.map_append];rfl
theorem nxR_appD {k m:Nat} {f:Nat→Nat→Nat}:rows i64s (nxR k m f)++[[.sl 1 (i64s (rwN k (f m)))]]=rows i64s (nxR k (m+1) f):=by rw [← nxR_app];simp [rows]
theorem rwN_ext {n:Nat} {F G:Nat→Nat} (h:∀ j,j<n→F j=G j):rwN n F=rwN n G:=by
  unfold rwN tab
  exact List.map_congr_left fun j hj=>by rw [h j (List.mem_range.1 hj)]
theorem nxR_take {k m:Nat} {f:Nat→Nat→Nat}:(nxR k m f).take m=nxR k m f:=List.take_of_length_le (by rw [nxR_len];exact Nat.le_refl _)
theorem bfL_keep {L:Lg} {k t u i:Nat} (h:t≤u) (hi:i<(bfL L k t).length):(bfL L k u).getD i noL=(bfL L k t).getD i noL:=by
  obtain ⟨G,e⟩:=bfL_mono (L:=L) (k:=k) h
  rw [e];simp only [List.getD_eq_getElem?_getD];rw [List.getElem?_append_left hi]
theorem obRw {n:Nat} {F G:Nat→Nat} {a b:Bool} {c:Kd} (h:∀ j,j<n→F j=G j):some (⟨1,i64s (rwN n F),a,b,c⟩:Ob)=some ⟨1,i64s (rwN n G),a,b,c⟩:=by rw [rwN_ext h]
def vsz:=And.intro vsn<|And.intro @nxR_take @nxR_appD
set_option maxRecDepth 10000 in
set_option maxHeartbeats 4000000 in
theorem sure_err (k:Int) (l:List Dm.Node) (hl:l.length≤9223372036854775807) (h:¬ sentCode k l=0):Dm.Spec Try.prog 4 [iv .i64 k,.sl 3 (tbl nodD l)] (·=.tu [.ag mzD,iv .i64 (sentCode k l)]):=by
  refine spec_of_vc mixed Try.func4 c4 (by rw [show Try.f4.ntmps=_ from Try.ntmps4];simp) ?_
  unfold m4 r4
  repeat' first|((first|refine Br.dec ?_ ?_|refine Br.eqi ?_ ?_)<;>intro h<;>try (exfalso;omega))|(simp (disch:=first|omega|(simp only [vlen];first|done|omega)) only [vsz,↓vAq,vBq,↓reduceIte,Nat.reduceBEq,Nat.reduceEqDiff,Nat.reduceLT,Nat.reduceLeDiff,Nat.reduceAdd,Nat.reduceMul,Nat.reduceSub,reduceCtorEq,Int.reduceToNat])|(refine Br.mk ?_ ?_<;>intro h)|(refine BrN.mk (fun h => ?_) ?_)|(refine AltVC.mk ?_ ?_)
  refine CallVC.eq (sCheck_spec k l hl) ?_
  repeat' first|((first|refine Br.dec ?_ ?_|refine Br.eqi ?_ ?_)<;>intro h<;>try (exfalso;omega))|(simp (disch:=first|omega|(simp only [vlen];first|done|omega)) only [vsz,↓vAq,vBq,↓reduceIte,Nat.reduceBEq,Nat.reduceEqDiff,Nat.reduceLT,Nat.reduceLeDiff,Nat.reduceAdd,Nat.reduceMul,Nat.reduceSub,reduceCtorEq,Int.reduceToNat])|(refine Br.mk ?_ ?_<;>intro h)|(refine BrN.mk (fun h => ?_) ?_)|(refine AltVC.mk ?_ ?_)
  exact fin_mk rfl
set_option maxRecDepth 10000 in
set_option maxHeartbeats 4000000 in
theorem sure_spec (k : Nat) (l : List Dm.Node) (h : sentCode (k : Int) l = 0) : Dm.Spec Try.prog 4 [iv .i64 k, .sl 3 (tbl nodD l)] (suZ (lang l (l.length - 1)) k (iv .i64 0) (iv .i64 1)) := by
  refine spec_of_vc mixed Try.func4 c4 (by rw [show Try.f4.ntmps=_ from Try.ntmps4];simp) ?_
  unfold m4 r4
  obtain ⟨hk,hl,hv⟩:=sent_ok h
  have hk:1≤k∧k≤3:=by omega
  have hC:=sCheck_spec (k:Int) l (by omega)
  rw [h] at hC
  repeat' first|((first|refine Br.dec ?_ ?_|refine Br.eqi ?_ ?_)<;>intro h<;>try (exfalso;omega))|(simp (disch:=first|omega|(simp only [vlen];first|done|omega)) only [vsz,↓vAq,vBq,↓reduceIte,Nat.reduceBEq,Nat.reduceEqDiff,Nat.reduceLT,Nat.reduceLeDiff,Nat.reduceAdd,Nat.reduceMul,Nat.reduceSub,reduceCtorEq,Int.reduceToNat])|(refine Br.mk ?_ ?_<;>intro h)|(refine BrN.mk (fun h => ?_) ?_)|(refine AltVC.mk ?_ ?_)
  refine CallVC.eq hC ?_
  repeat' first|((first|refine Br.dec ?_ ?_|refine Br.eqi ?_ ?_)<;>intro h<;>try (exfalso;omega))|(simp (disch:=first|omega|(simp only [vlen];first|done|omega)) only [vsz,↓vAq,vBq,↓reduceIte,Nat.reduceBEq,Nat.reduceEqDiff,Nat.reduceLT,Nat.reduceLeDiff,Nat.reduceAdd,Nat.reduceMul,Nat.reduceSub,reduceCtorEq,Int.reduceToNat])|(refine Br.mk ?_ ?_<;>intro h)|(refine BrN.mk (fun h => ?_) ?_)|(refine AltVC.mk ?_ ?_)
  refine CallVC.mk (subsets_spec k hk l hv hl) ?_
  rintro _ ⟨g,ws,NX,FI,rfl,hg,hS,hN,hF⟩
  have hD:=su_df hv hl.1 hg hS hN
  have hwl:=hg.few hv (by omega) hl hS.inj
  rw [su_NX hN,su_FI hF]
  generalize suNx NX=nx at *
  generalize suFi g ws=fi at *
  generalize (fun i v=>lang l (l.length - 1) (ws.getD i []++v))=D at *
  generalize ws.length=n at *
  generalize lang l (l.length - 1)=L at *
  clear hN hF hS hg
  repeat' first|((first|refine Br.dec ?_ ?_|refine Br.eqi ?_ ?_)<;>intro h<;>try (exfalso;omega))|(simp (disch:=first|omega|(simp only [vlen];first|done|omega)) only [vsz,↓vAq,vBq,↓reduceIte,Nat.reduceBEq,Nat.reduceEqDiff,Nat.reduceLT,Nat.reduceLeDiff,Nat.reduceAdd,Nat.reduceMul,Nat.reduceSub,reduceCtorEq,Int.reduceToNat])|(refine Br.mk ?_ ?_<;>intro h)|(refine BrN.mk (fun h => ?_) ?_)|(refine AltVC.mk ?_ ?_)
  refine CallVC.mk (refine_spec L k n nx fi D hD hk hwl) ?_
  rintro _ ⟨c,rfl,hc,hcb⟩
  obtain ⟨mm,hmm⟩ : ∃ mm,(cls c n).length=mm:=⟨_,rfl⟩
  have hbig:=DF.big hD hk.1 hc
  have hfew:=fun t=>hD.few hk.1 hc (t:=t)
  rw [hmm] at hbig hfew ⊢
  by_cases h7:7<mm
  · repeat' first|((first|refine Br.dec ?_ ?_|refine Br.eqi ?_ ?_)<;>intro h<;>try (exfalso;omega))|(simp (disch:=first|omega|(simp only [vlen];first|done|omega)) only [vsz,↓vAq,vBq,↓reduceIte,Nat.reduceBEq,Nat.reduceEqDiff,Nat.reduceLT,Nat.reduceLeDiff,Nat.reduceAdd,Nat.reduceMul,Nat.reduceSub,reduceCtorEq,Int.reduceToNat])|(refine Br.mk ?_ ?_<;>intro h)|(refine BrN.mk (fun h => ?_) ?_)|(refine AltVC.mk ?_ ?_)
    exact fin_mk (.inl ⟨hbig.2 h7,rfl⟩)
  · repeat' first | ((first | refine Br.dec ?_ ?_ | refine Br.eqi ?_ ?_) <;> intro h <;> try (exfalso; omega)) | (simp (disch := first | omega | (simp only [vlen]; first | done | omega)) only [vsz, ↓vAq, vBq, ↓reduceIte, Nat.reduceBEq, Nat.reduceEqDiff, Nat.reduceLT, Nat.reduceLeDiff, Nat.reduceAdd, Nat.reduceMul, Nat.reduceSub, reduceCtorEq, Int.reduceToNat]) | (refine Br.mk ?_ ?_ <;> intro h) | (refine BrN.mk (fun h => ?_) ?_) | (refine AltVC.mk ?_ ?_)
    refine LoopVC.nlo 3 0 2 1 ?_
    repeat' first|((first|refine Br.dec ?_ ?_|refine Br.eqi ?_ ?_)<;>intro h<;>try (exfalso;omega))|(simp (disch:=first|omega|(simp only [vlen];first|done|omega)) only [vsz,↓vAq,vBq,↓reduceIte,Nat.reduceBEq,Nat.reduceEqDiff,Nat.reduceLT,Nat.reduceLeDiff,Nat.reduceAdd,Nat.reduceMul,Nat.reduceSub,reduceCtorEq,Int.reduceToNat])|(refine Br.mk ?_ ?_<;>intro h)|(refine BrN.mk (fun h => ?_) ?_)|(refine AltVC.mk ?_ ?_)
    refine LoopVC.mk (X:=Nat × Nat × (Nat→Nat)) (fun x=>[(4,.ptr 0 5 0 0),(7,.ptr 1 2 0 0),(8,.ptr 2 1 0 0),(10,.ptr 3 5 0 0),(11,.ptr 5 1 0 0),(12,.clo 12 [.ptr 5 1 0 0,.ptr 2 1 0 0]),(13,iv .i64 x.1)]) (fun x=>[(0,⟨5,[mzD],true,false,.fix⟩),(1,⟨2,[[.sl 1 (rows i64s (nxR k n nx)),.sl 1 (i64s (rwN n (fiN fi)))]],true,false,.fix⟩),(2,⟨1,[[.sl 1 (i64s (rwN n c))]],true,false,.fix⟩),(3,⟨5,[[iv .i64 mm,iv .i64 k,.own false 1 (rows i64s (nxR k x.1 (bfN L k))),iv .i64 0,iv .u32 (setOf (bfF L k) x.1:Nat)]],true,true,.fix⟩),(4,⟨1,i64s (rwN x.2.1 x.2.2),true,false,.arr⟩),(5,⟨1,[[.ref 4 1 0 x.2.1]],false,false,.fix⟩)]) (fun x=>8 - x.1) (fun x=>x.1≤x.2.1∧FoI D n L k x.2.1 x.2.2 (x.1 * k)∧∀ a,a<x.1→a<(bfL L k (a * k)).length) (0,1,fun _=>0) ⟨by show (0:Nat)≤1;omega,by show FoI D n L k 1 (fun _=>0) (0 * k);rw [Nat.zero_mul];exact FoI.start hD,fun a h=>absurd h (Nat.not_lt_zero _)⟩ ?_ ?_
    · (simp (disch:=first|omega|(simp only [vlen];first|done|omega)) only [Fits_u,Fits_m,Fits_nil,List.length_append,vsz,↓vAq,vBq,↓reduceIte,Nat.reduceBEq,Nat.reduceEqDiff,Nat.reduceLT,Nat.reduceLeDiff,Nat.reduceAdd,Nat.reduceMul,Nat.reduceSub,reduceCtorEq,Int.reduceToNat]<;>(repeat' first|rfl|apply And.intro))
      all_goals trace_state
    · rintro ⟨i, m, F⟩ ⟨hi, hFo, hFx⟩
      simp only at hi hFo hFx ⊢
      have hml:=hFo.len
      have hm7:m≤7:=by have:=hfew (i * k);omega
      by_cases him:i<m
      · have hFi:=hFo.lt i him
        repeat' first|((first|refine Br.dec ?_ ?_|refine Br.eqi ?_ ?_)<;>intro h<;>try (exfalso;omega))|(simp (disch:=first|omega|(simp only [vlen];first|done|omega)) only [rwN_rep,vsz,↓vAq,vBq,↓reduceIte,Nat.reduceBEq,Nat.reduceEqDiff,Nat.reduceLT,Nat.reduceLeDiff,Nat.reduceAdd,Nat.reduceMul,Nat.reduceSub,reduceCtorEq,Int.reduceToNat])|(refine Br.mk ?_ ?_<;>intro h)|(refine BrN.mk (fun h => ?_) ?_)|(refine AltVC.mk ?_ ?_)
        refine LoopVC.mk (X:=Nat × Nat × (Nat→Nat)) (fun x=>[(4,.ptr 0 5 0 0),(7,.ptr 1 2 0 0),(8,.ptr 2 1 0 0),(10,.ptr 3 5 0 0),(11,.ptr 5 1 0 0),(12,.clo 12 [.ptr 5 1 0 0,.ptr 2 1 0 0]),(14,.ref 6 1 0 k),(50,iv .i64 x.1)]) (fun x=>[(0,⟨5,[mzD],true,false,.fix⟩),(1,⟨2,[[.sl 1 (rows i64s (nxR k n nx)),.sl 1 (i64s (rwN n (fiN fi)))]],true,false,.fix⟩),(2,⟨1,[[.sl 1 (i64s (rwN n c))]],true,false,.fix⟩),(3,⟨5,[[iv .i64 mm,iv .i64 k,.own false 1 (rows i64s (nxR k i (bfN L k))),iv .i64 0,iv .u32 (setOf (bfF L k) i:Nat)]],true,true,.fix⟩),(4,⟨1,i64s (rwN x.2.1 x.2.2),true,false,.arr⟩),(5,⟨1,[[.ref 4 1 0 x.2.1]],false,false,.fix⟩),(6,⟨1,i64s (rwN k fun b=>if b<x.1 then bfN L k i b else 0),true,false,.arr⟩)]) (fun x=>k - x.1) (fun x=>x.1≤k∧i<x.2.1∧FoI D n L k x.2.1 x.2.2 (i * k+x.1)) (0,m,F) ⟨Nat.zero_le _,him,hFo⟩ ?_ ?_
        · (simp (disch:=first|omega|(simp only [vlen];first|done|omega)) only [Fits_u,Fits_m,Fits_nil,List.length_append,vsz,↓vAq,vBq,↓reduceIte,Nat.reduceBEq,Nat.reduceEqDiff,Nat.reduceLT,Nat.reduceLeDiff,Nat.reduceAdd,Nat.reduceMul,Nat.reduceSub,reduceCtorEq,Int.reduceToNat]<;>(repeat' first|rfl|apply And.intro))
          all_goals trace_state
        · have him0:=him
          have hFd0:=hFo
          rintro ⟨s,m,F⟩ ⟨hs,him,hFo⟩
          simp only at hs him hFo ⊢
          have hml:=hFo.len
          have hm7:m≤7:=by have:=hfew (i * k+s);omega
          have hFi:=hFo.lt i him
          by_cases hsk:s<k
          · have hst:=hD.lt _ s hFi hsk
            have hNu:=number_spec n c m F (by omega) hFo.lt (nx (F i) s) hst hwl
            repeat' first|((first|refine Br.dec ?_ ?_|refine Br.eqi ?_ ?_)<;>intro h<;>try (exfalso;omega))|(simp (disch:=first|omega|(simp only [vlen];first|done|omega)) only [vsz,↓vAq,vBq,↓reduceIte,Nat.reduceBEq,Nat.reduceEqDiff,Nat.reduceLT,Nat.reduceLeDiff,Nat.reduceAdd,Nat.reduceMul,Nat.reduceSub,reduceCtorEq,Int.reduceToNat])|(refine Br.mk ?_ ?_<;>intro h)|(refine BrN.mk (fun h => ?_) ?_)|(refine AltVC.mk ?_ ?_)
            refine CallVC.lendE [5,2,4] [iv .i64 (nx (F i) s),.ptr 0 1 0 0,.ptr 1 1 0 0] (nuO n c m F) hNu (by simp) (by rfl) (by unfold nuO;(simp (disch:=first|omega|(simp only [vlen];first|done|omega)) only [vle0,vsz,↓vAq,vBq,↓reduceIte,Nat.reduceBEq,Nat.reduceEqDiff,Nat.reduceLT,Nat.reduceLeDiff,Nat.reduceAdd,Nat.reduceMul,Nat.reduceSub,reduceCtorEq,Int.reduceToNat]<;>(repeat' first|rfl|apply And.intro))) ?_
            rintro _ _ ⟨r,m',F',rfl,rfl,hca⟩
            unfold nuO
            have hrow:∀ r,r=bfN L k i s→∀ b,b<k→(if b=s then r else if b<s then bfN L k i b else 0)=if b<s+1 then bfN L k i b else 0:=by
              intro r hr b hb
              by_cases e:b=s
              · rw [if_pos e,if_pos (by omega),e];exact hr
              · rw [if_neg e]
                by_cases e2:b<s
                · rw [if_pos e2,if_pos (by omega)]
                · rw [if_neg e2,if_neg (by omega)]
            rcases hca with ⟨rfl,rfl,hr,hce⟩|⟨rfl,rfl,rfl,hno⟩
            · obtain ⟨f1,f2⟩:=hFo.old hD him hsk hr ((hc _ _ (hFo.lt r hr) hst).1 hce)
              repeat' first|((first|refine Br.dec ?_ ?_|refine Br.eqi ?_ ?_)<;>intro h<;>try (exfalso;omega))|(simp (disch:=first|omega|(simp only [vlen];first|done|omega)) only [vsz,↓vAq,vBq,↓reduceIte,Nat.reduceBEq,Nat.reduceEqDiff,Nat.reduceLT,Nat.reduceLeDiff,Nat.reduceAdd,Nat.reduceMul,Nat.reduceSub,reduceCtorEq,Int.reduceToNat])|(refine Br.mk ?_ ?_<;>intro h)|(refine BrN.mk (fun h => ?_) ?_)|(refine AltVC.mk ?_ ?_)
              refine loopK.mk (s+1,m',F') (by simp (disch:=first|omega|(simp only [vlen];first|done|omega)) only [vsz,↓vAq,vBq,↓reduceIte,Nat.reduceBEq,Nat.reduceEqDiff,Nat.reduceLT,Nat.reduceLeDiff,Nat.reduceAdd,Nat.reduceMul,Nat.reduceSub,reduceCtorEq,Int.reduceToNat]) ⟨by show s+1≤k;omega,him,f1⟩ (by show k - (s+1)<k - s;omega) ?_
              (simp (disch:=first|omega|(simp only [vlen];first|done|omega)) only [Fits_u,Fits_m,Fits_nil,List.length_append,vsz,↓vAq,vBq,↓reduceIte,Nat.reduceBEq,Nat.reduceEqDiff,Nat.reduceLT,Nat.reduceLeDiff,Nat.reduceAdd,Nat.reduceMul,Nat.reduceSub,reduceCtorEq,Int.reduceToNat]<;>(repeat' first|rfl|apply And.intro))
              all_goals first|exact obRw (hrow _ f2)|trace_state
            · obtain ⟨f1,f2⟩:=hFo.new hD him hsk fun q hq e=>hno q hq ((hc _ _ (hFo.lt q hq) hst).2 e)
              have hm6:=f1.len
              have hm6':=hfew (i * k+s+1)
              repeat' first|((first|refine Br.dec ?_ ?_|refine Br.eqi ?_ ?_)<;>intro h<;>try (exfalso;omega))|(simp (disch:=first|omega|(simp only [vlen];first|done|omega)) only [vsz,↓vAq,vBq,↓reduceIte,Nat.reduceBEq,Nat.reduceEqDiff,Nat.reduceLT,Nat.reduceLeDiff,Nat.reduceAdd,Nat.reduceMul,Nat.reduceSub,reduceCtorEq,Int.reduceToNat])|(refine Br.mk ?_ ?_<;>intro h)|(refine BrN.mk (fun h => ?_) ?_)|(refine AltVC.mk ?_ ?_)
              refine loopK.mk (s+1,r+1,fun j=>if j=r then nx (F i) s else F j) (by simp (disch:=first|omega|(simp only [vlen];first|done|omega)) only [vsz,↓vAq,vBq,↓reduceIte,Nat.reduceBEq,Nat.reduceEqDiff,Nat.reduceLT,Nat.reduceLeDiff,Nat.reduceAdd,Nat.reduceMul,Nat.reduceSub,reduceCtorEq,Int.reduceToNat]) ⟨by show s+1≤k;omega,by show i<r+1;omega,f1⟩ (by show k - (s+1)<k - s;omega) ?_
              (simp (disch:=first|omega|(simp only [vlen];first|done|omega)) only [Fits_u,Fits_m,Fits_nil,List.length_append,vsz,↓vAq,vBq,↓reduceIte,Nat.reduceBEq,Nat.reduceEqDiff,Nat.reduceLT,Nat.reduceLeDiff,Nat.reduceAdd,Nat.reduceMul,Nat.reduceSub,reduceCtorEq,Int.reduceToNat]<;>(repeat' first|rfl|apply And.intro))
              all_goals first|exact obRw (hrow _ f2)|trace_state
          · have hse:s=k:=by omega
            subst hse
            have hfb:fi (F i)=bfF L s i:=by
              rw [Bool.eq_iff_iff,bfF_iff,hD.fin _ hFi,← hFo.get him,bfL_keep (Nat.le_add_right _ _) (by rw [hFd0.len];exact him0)]
            have hrw:rwN s (fun b=>if b<s then bfN L s i b else 0)=rwN s (bfN L s i):=rwN_ext fun b hb=>if_pos hb
            have hFx2:∀ a,a<i+1→a<(bfL L s (a * s)).length:=fun a ha=>by
              by_cases e:a=i
              · rw [e,hFd0.len];exact him0
              · exact hFx a (by omega)
            have hFo2:FoI D n L s m F ((i+1) * s):=by rw [Nat.succ_mul];exact hFo
            cases hb:bfF L s i with
            | true =>
              have hfN:fiN fi (F i)=1:=by unfold fiN;rw [hfb,hb];rfl
              have hs1:setOf (bfF L s) i ||| 2 ^ i=setOf (bfF L s) (i+1):=by rw [setOf,if_pos hb]
              have hF:=@setOf_lt (bfF L s) i
              have hF2:2 ^ i≤2 ^ 7:=Nat.pow_le_pow_right (by omega) (by omega)
              have hp2:=@pow_le31 i (by omega)
              have ho:=orN (S:=setOf (bfF L s) i) (T:=2 ^ i) (by omega) (by omega)
              have hsh:=shlN (n:=i) (by omega)
              repeat' first|((first|refine Br.dec ?_ ?_|refine Br.eqi ?_ ?_)<;>intro h<;>try (exfalso;omega))|(simp (disch:=first|omega|(simp only [vlen];first|done|omega)) only [hfN,hrw,vsz,↓vAq,vBq,↓reduceIte,Nat.reduceBEq,Nat.reduceEqDiff,Nat.reduceLT,Nat.reduceLeDiff,Nat.reduceAdd,Nat.reduceMul,Nat.reduceSub,reduceCtorEq,Int.reduceToNat])|(refine Br.mk ?_ ?_<;>intro h)|(refine BrN.mk (fun h => ?_) ?_)|(refine AltVC.mk ?_ ?_)
              rw [hsh,ho,hs1]
              refine loopK.frz 6 ?_
              repeat' first|((first|refine Br.dec ?_ ?_|refine Br.eqi ?_ ?_)<;>intro h<;>try (exfalso;omega))|(simp (disch:=first|omega|(simp only [vlen];first|done|omega)) only [hrw,vsz,↓vAq,vBq,↓reduceIte,Nat.reduceBEq,Nat.reduceEqDiff,Nat.reduceLT,Nat.reduceLeDiff,Nat.reduceAdd,Nat.reduceMul,Nat.reduceSub,reduceCtorEq,Int.reduceToNat])|(refine Br.mk ?_ ?_<;>intro h)|(refine BrN.mk (fun h => ?_) ?_)|(refine AltVC.mk ?_ ?_)
              refine loopK.flt 7 ?_
              repeat' first|((first|refine Br.dec ?_ ?_|refine Br.eqi ?_ ?_)<;>intro h<;>try (exfalso;omega))|(simp (disch:=first|omega|(simp only [vlen];first|done|omega)) only [vsz,↓vAq,vBq,↓reduceIte,Nat.reduceBEq,Nat.reduceEqDiff,Nat.reduceLT,Nat.reduceLeDiff,Nat.reduceAdd,Nat.reduceMul,Nat.reduceSub,reduceCtorEq,Int.reduceToNat])|(refine Br.mk ?_ ?_<;>intro h)|(refine BrN.mk (fun h => ?_) ?_)|(refine AltVC.mk ?_ ?_)
              refine loopK.fold 7 3 0 2 true ?_
              repeat' first|((first|refine Br.dec ?_ ?_|refine Br.eqi ?_ ?_)<;>intro h<;>try (exfalso;omega))|(simp (disch:=first|omega|(simp only [vlen];first|done|omega)) only [vsz,↓vAq,vBq,↓reduceIte,Nat.reduceBEq,Nat.reduceEqDiff,Nat.reduceLT,Nat.reduceLeDiff,Nat.reduceAdd,Nat.reduceMul,Nat.reduceSub,reduceCtorEq,Int.reduceToNat])|(refine Br.mk ?_ ?_<;>intro h)|(refine BrN.mk (fun h => ?_) ?_)|(refine AltVC.mk ?_ ?_)
              refine loopK.mk (i+1,m,F) (by simp (disch:=first|omega|(simp only [vlen];first|done|omega)) only [vsz,↓vAq,vBq,↓reduceIte,Nat.reduceBEq,Nat.reduceEqDiff,Nat.reduceLT,Nat.reduceLeDiff,Nat.reduceAdd,Nat.reduceMul,Nat.reduceSub,reduceCtorEq,Int.reduceToNat]) ⟨by show i+1≤m;omega,hFo2,hFx2⟩ (by show 8 - (i+1)<8 - i;omega) ?_
              (simp (disch:=first|omega|(simp only [vlen];first|done|omega)) only [Fits_u,Fits_m,Fits_nil,List.length_append,vsz,↓vAq,vBq,↓reduceIte,Nat.reduceBEq,Nat.reduceEqDiff,Nat.reduceLT,Nat.reduceLeDiff,Nat.reduceAdd,Nat.reduceMul,Nat.reduceSub,reduceCtorEq,Int.reduceToNat]<;>(repeat' first|rfl|apply And.intro))
              all_goals trace_state
            | false =>
              have hfN:fiN fi (F i)=0:=by unfold fiN;rw [hfb,hb];rfl
              have hs1:setOf (bfF L s) (i+1)=setOf (bfF L s) i:=setOf_skip (by rw [hb];simp)
              repeat' first|((first|refine Br.dec ?_ ?_|refine Br.eqi ?_ ?_)<;>intro h<;>try (exfalso;omega))|(simp (disch:=first|omega|(simp only [vlen];first|done|omega)) only [hfN,hrw,vsz,↓vAq,vBq,↓reduceIte,Nat.reduceBEq,Nat.reduceEqDiff,Nat.reduceLT,Nat.reduceLeDiff,Nat.reduceAdd,Nat.reduceMul,Nat.reduceSub,reduceCtorEq,Int.reduceToNat])|(refine Br.mk ?_ ?_<;>intro h)|(refine BrN.mk (fun h => ?_) ?_)|(refine AltVC.mk ?_ ?_)
              refine loopK.frz 6 ?_
              repeat' first|((first|refine Br.dec ?_ ?_|refine Br.eqi ?_ ?_)<;>intro h<;>try (exfalso;omega))|(simp (disch:=first|omega|(simp only [vlen];first|done|omega)) only [hrw,vsz,↓vAq,vBq,↓reduceIte,Nat.reduceBEq,Nat.reduceEqDiff,Nat.reduceLT,Nat.reduceLeDiff,Nat.reduceAdd,Nat.reduceMul,Nat.reduceSub,reduceCtorEq,Int.reduceToNat])|(refine Br.mk ?_ ?_<;>intro h)|(refine BrN.mk (fun h => ?_) ?_)|(refine AltVC.mk ?_ ?_)
              refine loopK.flt 7 ?_
              repeat' first|((first|refine Br.dec ?_ ?_|refine Br.eqi ?_ ?_)<;>intro h<;>try (exfalso;omega))|(simp (disch:=first|omega|(simp only [vlen];first|done|omega)) only [vsz,↓vAq,vBq,↓reduceIte,Nat.reduceBEq,Nat.reduceEqDiff,Nat.reduceLT,Nat.reduceLeDiff,Nat.reduceAdd,Nat.reduceMul,Nat.reduceSub,reduceCtorEq,Int.reduceToNat])|(refine Br.mk ?_ ?_<;>intro h)|(refine BrN.mk (fun h => ?_) ?_)|(refine AltVC.mk ?_ ?_)
              refine loopK.fold 7 3 0 2 true ?_
              repeat' first|((first|refine Br.dec ?_ ?_|refine Br.eqi ?_ ?_)<;>intro h<;>try (exfalso;omega))|(simp (disch:=first|omega|(simp only [vlen];first|done|omega)) only [vsz,↓vAq,vBq,↓reduceIte,Nat.reduceBEq,Nat.reduceEqDiff,Nat.reduceLT,Nat.reduceLeDiff,Nat.reduceAdd,Nat.reduceMul,Nat.reduceSub,reduceCtorEq,Int.reduceToNat])|(refine Br.mk ?_ ?_<;>intro h)|(refine BrN.mk (fun h => ?_) ?_)|(refine AltVC.mk ?_ ?_)
              refine loopK.mk (i+1,m,F) (by simp (disch:=first|omega|(simp only [vlen];first|done|omega)) only [vsz,↓vAq,vBq,↓reduceIte,Nat.reduceBEq,Nat.reduceEqDiff,Nat.reduceLT,Nat.reduceLeDiff,Nat.reduceAdd,Nat.reduceMul,Nat.reduceSub,reduceCtorEq,Int.reduceToNat]) ⟨by show i+1≤m;omega,hFo2,hFx2⟩ (by show 8 - (i+1)<8 - i;omega) ?_
              rw [hs1]
              (simp (disch:=first|omega|(simp only [vlen];first|done|omega)) only [Fits_u,Fits_m,Fits_nil,List.length_append,vsz,↓vAq,vBq,↓reduceIte,Nat.reduceBEq,Nat.reduceEqDiff,Nat.reduceLT,Nat.reduceLeDiff,Nat.reduceAdd,Nat.reduceMul,Nat.reduceSub,reduceCtorEq,Int.reduceToNat]<;>(repeat' first|rfl|apply And.intro))
              all_goals trace_state
      · have hie:i=m:=by omega
        subst hie
        have hfx:Fx L k i:=⟨hml,hFx⟩
        have hmi:i=mm:=(DF.fx hD hk.1 hc hfx).trans hmm
        repeat' first|((first|refine Br.dec ?_ ?_|refine Br.eqi ?_ ?_)<;>intro h<;>try (exfalso;omega))|(simp (disch:=first|omega|(simp only [vlen];first|done|omega)) only [vsz,↓vAq,vBq,↓reduceIte,Nat.reduceBEq,Nat.reduceEqDiff,Nat.reduceLT,Nat.reduceLeDiff,Nat.reduceAdd,Nat.reduceMul,Nat.reduceSub,reduceCtorEq,Int.reduceToNat])|(refine Br.mk ?_ ?_<;>intro h)|(refine BrN.mk (fun h => ?_) ?_)|(refine AltVC.mk ?_ ?_)
        refine GhoV.frz 3 ?_
        repeat' first|((first|refine Br.dec ?_ ?_|refine Br.eqi ?_ ?_)<;>intro h<;>try (exfalso;omega))|(simp (disch:=first|omega|(simp only [vlen];first|done|omega)) only [vsz,↓vAq,vBq,↓reduceIte,Nat.reduceBEq,Nat.reduceEqDiff,Nat.reduceLT,Nat.reduceLeDiff,Nat.reduceAdd,Nat.reduceMul,Nat.reduceSub,reduceCtorEq,Int.reduceToNat])|(refine Br.mk ?_ ?_<;>intro h)|(refine BrN.mk (fun h => ?_) ?_)|(refine AltVC.mk ?_ ?_)
        refine GhoV.go ?_
        repeat' first|((first|refine Br.dec ?_ ?_|refine Br.eqi ?_ ?_)<;>intro h<;>try (exfalso;omega))|(simp (disch:=first|omega|(simp only [vlen];first|done|omega)) only [vsz,↓vAq,vBq,↓reduceIte,Nat.reduceBEq,Nat.reduceEqDiff,Nat.reduceLT,Nat.reduceLeDiff,Nat.reduceAdd,Nat.reduceMul,Nat.reduceSub,reduceCtorEq,Int.reduceToNat])|(refine Br.mk ?_ ?_<;>intro h)|(refine BrN.mk (fun h => ?_) ?_)|(refine AltVC.mk ?_ ?_)
        exact fin_mk (.inr ⟨fun hB=>h7 (hbig.1 hB),i,hfx,hm7,by rw [← hmi];rfl⟩)
end Go.Proofs.Ytpgomgjpliallaa
