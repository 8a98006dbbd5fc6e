/-
 Texts of this claim, one behind another.
-/
import Derived.Test.YtcclchnbjpncdaaMg16
import Derived.Test.YtcclchnbjpncdaaMg11
import Derived.Test.YtcclchnbjpncdaaMg15
import Derived.Test.YtcclchnbjpncdaaMg14
set_option linter.unusedSimpArgs false
set_option linter.unnecessarySimpa false
set_option linter.unusedVariables false
set_option linter.defProp false
namespace Go.Proofs.Ytcclchnbjpncdaa
open Go.Dm
def rtS (g:Grammar) (w:List Int):St:=(0,w.length,g.k+g.start)
structure BuR (g:Grammar) (w:List Int) (d:D):Prop where
  bad:tcode g w ≠ 0→d=.tu [.ag [.nl,iv .i64 0],iv .i64 (tcode g w)]
  no:tcode g w=0→trN g w=0→d=.tu [.ag [.nl,iv .i64 0],iv .i64 5]
  yes:tcode g w=0→trN g w ≠ 0 → ∃ Wk,Clos g w (rtS g w) Wk∧d=foD g w Wk (rtS g w)
def vtb:=vtf
set_option maxRecDepth 10000 in
set_option maxHeartbeats 4000000 in
theorem build_spec (g : Grammar) (hg : g.ok) (w : List Int) (hw : w.length ≤ 9223372036854775807) : Dm.Spec Try.prog 4 [.ag (graD g), .sl 1 (i64s w)] (BuR g w) := by
  refine spec_of_vc mixed Try.func4 c4 (by rw [show Try.f4.ntmps=_ from Try.ntmps4];simp) ?_
  unfold m4 r4
  have htc:=tcheck_spec g hg w hw
  by_cases hgw:gwC g w=0
  · obtain ⟨hg0, hw0⟩ := gw_of hgw
    have hv:=valid_of hg0
    have hw12:=(wcode_ok hw0).1
    have hlen:=hv.len
    have hk:=hv.k
    have hn:=hv.n
    have hst:=hv.start
    have hpr:=proper_spec g (by omega) (fun r hr=>by have:=hv.long r hr;omega)
    rw [hgw] at htc
    by_cases hip:isProper g=true
    · have hp := isProper_iff.mp hip
      have hc:CC g w:=⟨hv,hp,hw12⟩
      have htc0:tcode g w=0:=by unfold tcode;rw [if_pos hg0,if_pos hw0,if_pos hip]
      have hmk:=make_spec g w ⟨hv,hw12⟩
      rw [hip] at hpr
      obtain ⟨a,ha⟩ : ∃ a:Nat,g.start=a:=⟨g.start.toNat,by omega⟩
      have hroot:OkS g w (rtS g w):=⟨Nat.zero_le _,Nat.le_refl _,by show 0≤g.k+g.start;omega,by show g.k+g.start<g.k+g.n;omega⟩
      repeat' first|((first|refine Br.dec ?_ ?_|refine Br.eqi ?_ ?_)<;>intro h<;>try (exfalso;omega))|refine Z2 ?_|with_reducible exact trivial|(refine Br.mk ?_ ?_<;>intro h)|(refine BrN.mk (fun h => ?_) ?_)|(refine AltVC.mk ?_ ?_)
      refine CallVC.eq htc ?_
      repeat' first|((first|refine Br.dec ?_ ?_|refine Br.eqi ?_ ?_)<;>intro h<;>try (exfalso;omega))|refine Z2 ?_|with_reducible exact trivial|(refine Br.mk ?_ ?_<;>intro h)|(refine BrN.mk (fun h => ?_) ?_)|(refine AltVC.mk ?_ ?_)
      refine CallVC.eq hpr ?_
      repeat' first|((first|refine Br.dec ?_ ?_|refine Br.eqi ?_ ?_)<;>intro h<;>try (exfalso;omega))|refine Z2 ?_|with_reducible exact trivial|(refine Br.mk ?_ ?_<;>intro h)|(refine BrN.mk (fun h => ?_) ?_)|(refine AltVC.mk ?_ ?_)
      refine DrawVC.cu (X:=List SE × (Nat→Nat→Nat) × Bool) (fun x=>[(2,.ptr 0 4 0 0),(4,.ptr 1 2 0 0),(7,.ptr 5 7 0 0)]) (fun x=>[(0,⟨4,[[iv .i64 g.k,iv .i64 g.n,iv .i64 g.start,.sl 2 (tbl rulD g.rules)]],true,false,.fix⟩),(1,⟨2,[[.nl,iv .i64 0]],true,false,.fix⟩),(if x.2.2 then 3 else 4,⟨3,tbl seD x.1,true,false,.map [.i64,.i64] true false⟩),(if x.2.2 then 4 else 2,⟨4,[],true,false,.map [.i64,.i64,.i64] true false⟩),(5,⟨7,[[iv .i64 g.k,iv .i64 g.n,iv .i64 g.start,.sl 2 (tbl rulD g.rules),.sl 1 (i64s w),.mp (if x.2.2 then 3 else 4),.mp (if x.2.2 then 4 else 2)]],false,false,.fix⟩)]) (fun x=>MK g w x.1 x.2.1∧Full g w x.2.1) 6 Y13 ?_ ?_
      · repeat' first|((first|refine Br.dec ?_ ?_|refine Br.eqi ?_ ?_)<;>intro h<;>try (exfalso;omega))|refine Z2 ?_|with_reducible exact trivial|(refine Br.mk ?_ ?_<;>intro h)|(refine BrN.mk (fun h => ?_) ?_)|(refine AltVC.mk ?_ ?_)
        · refine CallP.lend [.ag (graD g),.sl 1 (i64s w)] hmk Y13 ?_
          rintro _ _ ⟨rfl,L,t,rfl,hMK,hF⟩
          repeat' first|((first|refine Br.dec ?_ ?_|refine Br.eqi ?_ ?_)<;>intro h<;>try (exfalso;omega))|refine Z2 ?_|with_reducible exact trivial|(refine Br.mk ?_ ?_<;>intro h)|(refine BrN.mk (fun h => ?_) ?_)|(refine AltVC.mk ?_ ?_)
          refine cutK.mk (L,t,true) Y13 ⟨hMK,hF⟩ ?_
          simp only [if_true]
          (simp (disch:=first|omega|(simp only [vlen];first|done|omega)) only [Fits_u,Fits_m,Fits_nil,List.length_append,vtb,↓vAq,vBq,↓reduceIte,Nat.reduceBEq,Nat.reduceEqDiff,Nat.reduceLT,Nat.reduceLeDiff,Nat.reduceAdd,Nat.reduceMul,Nat.reduceSub,reduceCtorEq,Int.reduceToNat]<;>(repeat' first|rfl|apply And.intro))
          all_goals first|rfl|trace_state
        · refine CallP.lend [.ag (graD g),.sl 1 (i64s w)] hmk Y13 ?_
          rintro _ _ ⟨rfl,L,t,rfl,hMK,hF⟩
          repeat' first|((first|refine Br.dec ?_ ?_|refine Br.eqi ?_ ?_)<;>intro h<;>try (exfalso;omega))|refine Z2 ?_|with_reducible exact trivial|(refine Br.mk ?_ ?_<;>intro h)|(refine BrN.mk (fun h => ?_) ?_)|(refine AltVC.mk ?_ ?_)
          refine cutK.mk (L,t,false) Y13 ⟨hMK,hF⟩ ?_
          simp only [Bool.false_eq_true,if_false]
          (simp (disch:=first|omega|(simp only [vlen];first|done|omega)) only [Fits_u,Fits_m,Fits_nil,List.length_append,vtb,↓vAq,vBq,↓reduceIte,Nat.reduceBEq,Nat.reduceEqDiff,Nat.reduceLT,Nat.reduceLeDiff,Nat.reduceAdd,Nat.reduceMul,Nat.reduceSub,reduceCtorEq,Int.reduceToNat]<;>(repeat' first|rfl|apply And.intro))
          all_goals first|rfl|trace_state
      · rintro ⟨L, t, b⟩ ⟨hMK, hF⟩
        simp only at hMK hF
        cases b with
        | true =>
          simp only [if_true]
          repeat' first|((first|refine Br.dec ?_ ?_|refine Br.eqi ?_ ?_)<;>intro h<;>try (exfalso;omega))|refine Z2 ?_|with_reducible exact trivial|(refine Br.mk ?_ ?_<;>intro h)|(refine BrN.mk (fun h => ?_) ?_)|(refine AltVC.mk ?_ ?_)
          have hone:oneB g w (tbB t) (g.k+g.start) 0 w.length=(t 0 w.length).testBit a:=by
            unfold oneB
            rw [if_neg (by omega),show (g.k+g.start - g.k).toNat=a by omega];rfl
          have htr:=one_tr hc hF (x:=g.k+g.start) (Nat.zero_le _) (Nat.le_refl _)
          rw [hone] at htr
          have hlt:=hMK.si.lt 0 w.length
          have hrest:∀ E,Clos g w (rtS g w) E→BuR g w (foD g w E (rtS g w))∨trN g w=0:=fun E hE=>by
            by_cases hz:trN g w=0
            · exact .inr hz
            · exact .inl ⟨fun h=>absurd htc0 h,fun _ h=>absurd h hz,fun _ _=>⟨E,hE,rfl⟩⟩
          have hgr:=growS_spec g w hc L t hMK.si hF (rtS g w) hroot [] List.nodup_nil
          have hval:∀ r,r<(tbl seD L).length→Agr (((tbl seD L).getD r []).take 2) [.v (.int .i64 (0:Nat)),.v (.int .i64 w.length)]→(tbl seD L).getD r []=[iv .i64 (0:Nat),iv .i64 w.length,iv .u32 (t 0 w.length)]:=fun r hr he=>(se_in hMK.si hr he).2.2.2
          by_cases hb:(t 0 w.length).testBit a=true
          · have hfin:∀ (P:Prop),P→P:=fun _ h=>h
            have hne:trN g w ≠ 0:=htr.1 hb
            refine BrK.mk (fun q hq he => ?_) (fun hnn => ?_)
            · have hR:=hval q hq he
              repeat' first|((first|refine Br.dec ?_ ?_|refine Br.eqi ?_ ?_)<;>intro h<;>try (exfalso;omega))|refine Z25 ?_|with_reducible exact trivial|(refine Br.mk ?_ ?_<;>intro h)|(refine BrN.mk (fun h => ?_) ?_)|(refine AltVC.mk ?_ ?_)
              have hhas:=has_spec (t 0 w.length) a (by omega) (by omega)
              rw [hb,← ha] at hhas
              refine CallVC.eq hhas ?_
              repeat' first|((first|refine Br.dec ?_ ?_|refine Br.eqi ?_ ?_)<;>intro h<;>try (exfalso;omega))|refine Z2 ?_|with_reducible exact trivial|(refine Br.mk ?_ ?_<;>intro h)|(refine BrN.mk (fun h => ?_) ?_)|(refine AltVC.mk ?_ ?_)
              refine CallVC.lendE [5,3,4] [.ptr 0 7 0 0,.ag [iv .i64 (g.k+g.start),iv .i64 (0:Nat),iv .i64 w.length]] (grO g w L []) hgr (by simp) (by rfl) Y14 ?_
              rintro _ _ ⟨rfl,E,rfl,hI⟩
              have hE:=hI.clos
              rw [List.nil_append]
              have hfo:=forest_spec g w hc L E (rtS g w) hroot hE
              unfold grO
              repeat' first|((first|refine Br.dec ?_ ?_|refine Br.eqi ?_ ?_)<;>intro h<;>try (exfalso;omega))|refine Z2 ?_|with_reducible exact trivial|(refine Br.mk ?_ ?_<;>intro h)|(refine BrN.mk (fun h => ?_) ?_)|(refine AltVC.mk ?_ ?_)
              refine CallVC.lendE [5,3,4] [.ptr 0 7 0 0,.ag [iv .i64 (g.k+g.start),iv .i64 (0:Nat),iv .i64 w.length]] (grO g w L E) hfo (by simp) (by rfl) Y14 ?_
              rintro _ _ ⟨rfl,rfl⟩
              have hBu:BuR g w (foD g w E (rtS g w)):=(hrest E hE).resolve_right hne
              unfold grO
              by_cases h2:200<E.length
              · have hD:foD g w E (rtS g w)=.tu [.ag [.nl,iv .i64 0],iv .i64 1]:=if_pos h2
                rw [hD] at hBu ⊢
                repeat' first|((first|refine Br.dec ?_ ?_|refine Br.eqi ?_ ?_)<;>intro h<;>try (exfalso;omega))|refine Z2 ?_|with_reducible exact trivial|(refine Br.mk ?_ ?_<;>intro h)|(refine BrN.mk (fun h => ?_) ?_)|(refine AltVC.mk ?_ ?_)
                exact fin_mk hBu
              · have hD:foD g w E (rtS g w)=.tu [.ag (thiD (thiT g w (srtS E) (rtS g w))),iv .i64 0]:=if_neg h2
                rw [hD] at hBu ⊢
                repeat' first|((first|refine Br.dec ?_ ?_|refine Br.eqi ?_ ?_)<;>intro h<;>try (exfalso;omega))|refine Z2 ?_|with_reducible exact trivial|(refine Br.mk ?_ ?_<;>intro h)|(refine BrN.mk (fun h => ?_) ?_)|(refine AltVC.mk ?_ ?_)
                exact fin_mk hBu
            · have h0:=hMK.si.no 0 w.length (se_out hnn)
              rw [h0] at hb
              simp at hb
          · have hbf:(t 0 w.length).testBit a=false:=by simpa using hb
            have hz:trN g w=0:=by
              rcases Nat.eq_zero_or_pos (trN g w) with h|h
              · exact h
              · exact absurd (htr.2 (by unfold trN at h;omega)) hb
            have hres:BuR g w (.tu [.ag [.nl,iv .i64 0],iv .i64 5]):=⟨fun h=>absurd htc0 h,fun _ _=>rfl,fun _ h=>absurd hz h⟩
            refine BrK.mk (fun q hq he => ?_) (fun hnn => ?_)
            · have hR:=hval q hq he
              repeat' first|((first|refine Br.dec ?_ ?_|refine Br.eqi ?_ ?_)<;>intro h<;>try (exfalso;omega))|refine Z25 ?_|with_reducible exact trivial|(refine Br.mk ?_ ?_<;>intro h)|(refine BrN.mk (fun h => ?_) ?_)|(refine AltVC.mk ?_ ?_)
              have hhas:=has_spec (t 0 w.length) a (by omega) (by omega)
              rw [hbf,← ha] at hhas
              refine CallVC.eq hhas ?_
              repeat' first|((first|refine Br.dec ?_ ?_|refine Br.eqi ?_ ?_)<;>intro h<;>try (exfalso;omega))|refine Z2 ?_|with_reducible exact trivial|(refine Br.mk ?_ ?_<;>intro h)|(refine BrN.mk (fun h => ?_) ?_)|(refine AltVC.mk ?_ ?_)
              exact fin_mk hres
            · repeat' first|((first|refine Br.dec ?_ ?_|refine Br.eqi ?_ ?_)<;>intro h<;>try (exfalso;omega))|refine Z2 ?_|with_reducible exact trivial|(refine Br.mk ?_ ?_<;>intro h)|(refine BrN.mk (fun h => ?_) ?_)|(refine AltVC.mk ?_ ?_)
              have hhas:=has_spec 0 a (by omega) (by omega)
              rw [show (0:Nat).testBit a=false by simp,← ha] at hhas
              refine CallVC.eq hhas ?_
              repeat' first|((first|refine Br.dec ?_ ?_|refine Br.eqi ?_ ?_)<;>intro h<;>try (exfalso;omega))|refine Z2 ?_|with_reducible exact trivial|(refine Br.mk ?_ ?_<;>intro h)|(refine BrN.mk (fun h => ?_) ?_)|(refine AltVC.mk ?_ ?_)
              exact fin_mk hres
        | false =>
          simp only [Bool.false_eq_true,if_false]
          repeat' first|((first|refine Br.dec ?_ ?_|refine Br.eqi ?_ ?_)<;>intro h<;>try (exfalso;omega))|refine Z2 ?_|with_reducible exact trivial|(refine Br.mk ?_ ?_<;>intro h)|(refine BrN.mk (fun h => ?_) ?_)|(refine AltVC.mk ?_ ?_)
          have hone:oneB g w (tbB t) (g.k+g.start) 0 w.length=(t 0 w.length).testBit a:=by
            unfold oneB
            rw [if_neg (by omega),show (g.k+g.start - g.k).toNat=a by omega];rfl
          have htr:=one_tr hc hF (x:=g.k+g.start) (Nat.zero_le _) (Nat.le_refl _)
          rw [hone] at htr
          have hlt:=hMK.si.lt 0 w.length
          have hrest:∀ E,Clos g w (rtS g w) E→BuR g w (foD g w E (rtS g w))∨trN g w=0:=fun E hE=>by
            by_cases hz:trN g w=0
            · exact .inr hz
            · exact .inl ⟨fun h=>absurd htc0 h,fun _ h=>absurd h hz,fun _ _=>⟨E,hE,rfl⟩⟩
          have hgr:=growS_spec g w hc L t hMK.si hF (rtS g w) hroot [] List.nodup_nil
          have hval:∀ r,r<(tbl seD L).length→Agr (((tbl seD L).getD r []).take 2) [.v (.int .i64 (0:Nat)),.v (.int .i64 w.length)]→(tbl seD L).getD r []=[iv .i64 (0:Nat),iv .i64 w.length,iv .u32 (t 0 w.length)]:=fun r hr he=>(se_in hMK.si hr he).2.2.2
          by_cases hb:(t 0 w.length).testBit a=true
          · have hfin:∀ (P:Prop),P→P:=fun _ h=>h
            have hne:trN g w ≠ 0:=htr.1 hb
            refine BrK.mk (fun q hq he => ?_) (fun hnn => ?_)
            · have hR:=hval q hq he
              repeat' first|((first|refine Br.dec ?_ ?_|refine Br.eqi ?_ ?_)<;>intro h<;>try (exfalso;omega))|refine Z25 ?_|with_reducible exact trivial|(refine Br.mk ?_ ?_<;>intro h)|(refine BrN.mk (fun h => ?_) ?_)|(refine AltVC.mk ?_ ?_)
              have hhas:=has_spec (t 0 w.length) a (by omega) (by omega)
              rw [hb,← ha] at hhas
              refine CallVC.eq hhas ?_
              repeat' first|((first|refine Br.dec ?_ ?_|refine Br.eqi ?_ ?_)<;>intro h<;>try (exfalso;omega))|refine Z2 ?_|with_reducible exact trivial|(refine Br.mk ?_ ?_<;>intro h)|(refine BrN.mk (fun h => ?_) ?_)|(refine AltVC.mk ?_ ?_)
              refine CallVC.lendE [5,4,2] [.ptr 0 7 0 0,.ag [iv .i64 (g.k+g.start),iv .i64 (0:Nat),iv .i64 w.length]] (grO g w L []) hgr (by simp) (by rfl) Y14 ?_
              rintro _ _ ⟨rfl,E,rfl,hI⟩
              have hE:=hI.clos
              rw [List.nil_append]
              have hfo:=forest_spec g w hc L E (rtS g w) hroot hE
              unfold grO
              repeat' first|((first|refine Br.dec ?_ ?_|refine Br.eqi ?_ ?_)<;>intro h<;>try (exfalso;omega))|refine Z2 ?_|with_reducible exact trivial|(refine Br.mk ?_ ?_<;>intro h)|(refine BrN.mk (fun h => ?_) ?_)|(refine AltVC.mk ?_ ?_)
              refine CallVC.lendE [5,4,2] [.ptr 0 7 0 0,.ag [iv .i64 (g.k+g.start),iv .i64 (0:Nat),iv .i64 w.length]] (grO g w L E) hfo (by simp) (by rfl) Y14 ?_
              rintro _ _ ⟨rfl,rfl⟩
              have hBu:BuR g w (foD g w E (rtS g w)):=(hrest E hE).resolve_right hne
              unfold grO
              by_cases h2:200<E.length
              · have hD:foD g w E (rtS g w)=.tu [.ag [.nl,iv .i64 0],iv .i64 1]:=if_pos h2
                rw [hD] at hBu ⊢
                repeat' first|((first|refine Br.dec ?_ ?_|refine Br.eqi ?_ ?_)<;>intro h<;>try (exfalso;omega))|refine Z2 ?_|with_reducible exact trivial|(refine Br.mk ?_ ?_<;>intro h)|(refine BrN.mk (fun h => ?_) ?_)|(refine AltVC.mk ?_ ?_)
                exact fin_mk hBu
              · have hD:foD g w E (rtS g w)=.tu [.ag (thiD (thiT g w (srtS E) (rtS g w))),iv .i64 0]:=if_neg h2
                rw [hD] at hBu ⊢
                repeat' first|((first|refine Br.dec ?_ ?_|refine Br.eqi ?_ ?_)<;>intro h<;>try (exfalso;omega))|refine Z2 ?_|with_reducible exact trivial|(refine Br.mk ?_ ?_<;>intro h)|(refine BrN.mk (fun h => ?_) ?_)|(refine AltVC.mk ?_ ?_)
                exact fin_mk hBu
            · have h0:=hMK.si.no 0 w.length (se_out hnn)
              rw [h0] at hb
              simp at hb
          · have hbf:(t 0 w.length).testBit a=false:=by simpa using hb
            have hz:trN g w=0:=by
              rcases Nat.eq_zero_or_pos (trN g w) with h|h
              · exact h
              · exact absurd (htr.2 (by unfold trN at h;omega)) hb
            have hres:BuR g w (.tu [.ag [.nl,iv .i64 0],iv .i64 5]):=⟨fun h=>absurd htc0 h,fun _ _=>rfl,fun _ h=>absurd hz h⟩
            refine BrK.mk (fun q hq he => ?_) (fun hnn => ?_)
            · have hR:=hval q hq he
              repeat' first|((first|refine Br.dec ?_ ?_|refine Br.eqi ?_ ?_)<;>intro h<;>try (exfalso;omega))|refine Z25 ?_|with_reducible exact trivial|(refine Br.mk ?_ ?_<;>intro h)|(refine BrN.mk (fun h => ?_) ?_)|(refine AltVC.mk ?_ ?_)
              have hhas:=has_spec (t 0 w.length) a (by omega) (by omega)
              rw [hbf,← ha] at hhas
              refine CallVC.eq hhas ?_
              repeat' first|((first|refine Br.dec ?_ ?_|refine Br.eqi ?_ ?_)<;>intro h<;>try (exfalso;omega))|refine Z2 ?_|with_reducible exact trivial|(refine Br.mk ?_ ?_<;>intro h)|(refine BrN.mk (fun h => ?_) ?_)|(refine AltVC.mk ?_ ?_)
              exact fin_mk hres
            · repeat' first|((first|refine Br.dec ?_ ?_|refine Br.eqi ?_ ?_)<;>intro h<;>try (exfalso;omega))|refine Z2 ?_|with_reducible exact trivial|(refine Br.mk ?_ ?_<;>intro h)|(refine BrN.mk (fun h => ?_) ?_)|(refine AltVC.mk ?_ ?_)
              have hhas:=has_spec 0 a (by omega) (by omega)
              rw [show (0:Nat).testBit a=false by simp,← ha] at hhas
              refine CallVC.eq hhas ?_
              repeat' first|((first|refine Br.dec ?_ ?_|refine Br.eqi ?_ ?_)<;>intro h<;>try (exfalso;omega))|refine Z2 ?_|with_reducible exact trivial|(refine Br.mk ?_ ?_<;>intro h)|(refine BrN.mk (fun h => ?_) ?_)|(refine AltVC.mk ?_ ?_)
              exact fin_mk hres
    · have htc0:tcode g w=3:=by unfold tcode;rw [if_pos hg0,if_pos hw0,if_neg hip]
      have hipf:isProper g=false:=by simpa using hip
      rw [hipf] at hpr
      repeat' first|((first|refine Br.dec ?_ ?_|refine Br.eqi ?_ ?_)<;>intro h<;>try (exfalso;omega))|refine Z2 ?_|with_reducible exact trivial|(refine Br.mk ?_ ?_<;>intro h)|(refine BrN.mk (fun h => ?_) ?_)|(refine AltVC.mk ?_ ?_)
      refine CallVC.eq htc ?_
      repeat' first|((first|refine Br.dec ?_ ?_|refine Br.eqi ?_ ?_)<;>intro h<;>try (exfalso;omega))|refine Z2 ?_|with_reducible exact trivial|(refine Br.mk ?_ ?_<;>intro h)|(refine BrN.mk (fun h => ?_) ?_)|(refine AltVC.mk ?_ ?_)
      refine CallVC.eq hpr ?_
      repeat' first|((first|refine Br.dec ?_ ?_|refine Br.eqi ?_ ?_)<;>intro h<;>try (exfalso;omega))|refine Z2 ?_|with_reducible exact trivial|(refine Br.mk ?_ ?_<;>intro h)|(refine BrN.mk (fun h => ?_) ?_)|(refine AltVC.mk ?_ ?_)
      exact fin_mk ⟨fun _=>by rw [htc0],fun h=>(by rw [htc0] at h;exact absurd h (by decide)),fun h=>(by rw [htc0] at h;exact absurd h (by decide))⟩
  · have htc0:tcode g w=gwC g w:=by
      unfold tcode gwC
      unfold gwC at hgw
      by_cases h:gcode g=0
      · rw [if_pos h] at hgw ⊢
        rw [if_pos h,if_neg hgw]
      · rw [if_neg h,if_neg h]
    repeat' first|((first|refine Br.dec ?_ ?_|refine Br.eqi ?_ ?_)<;>intro h<;>try (exfalso;omega))|refine Z2 ?_|with_reducible exact trivial|(refine Br.mk ?_ ?_<;>intro h)|(refine BrN.mk (fun h => ?_) ?_)|(refine AltVC.mk ?_ ?_)
    refine CallVC.eq htc ?_
    repeat' first|((first|refine Br.dec ?_ ?_|refine Br.eqi ?_ ?_)<;>intro h<;>try (exfalso;omega))|refine Z2 ?_|with_reducible exact trivial|(refine Br.mk ?_ ?_<;>intro h)|(refine BrN.mk (fun h => ?_) ?_)|(refine AltVC.mk ?_ ?_)
    exact fin_mk ⟨fun _=>by rw [htc0],fun h=>absurd (htc0 ▸ h) hgw,fun h=>absurd (htc0 ▸ h) hgw⟩
end Go.Proofs.Ytcclchnbjpncdaa

namespace Go.Proofs.Ytcclchnbjpncdaa
open Go.Dm
def stD (s:Nat × Nat × Int):List D:=[iv .i64 s.1,iv .i64 s.2.1,iv .i64 s.2.2]
theorem stD_mk {a b:Nat} {x:Int}:stD (a,b,x)=[D.v (.int .i64 a),D.v (.int .i64 b),D.v (.int .i64 x)]:=(rfl)
def wyD (l:List Int) (i:Nat) (es:List Nat):List D:=[if l=[] then .nl else .sl 3 (tbl stD (wyS l i es))]
theorem wyD_cons {x:Int} {l:List Int} {i:Nat} {es:List Nat}:wyD (x::l) i es=[.sl 3 (tbl stD (wyS (x::l) i es))]:=(rfl)
theorem wy_app {l:List Int} {i:Nat} {L:List (List Nat)} {x:Int} {es:List Nat}:tbl (wyD (x::l) i) L++[[D.sl 3 (tbl stD (wyS (x::l) i es))]]=tbl (wyD (x::l) i) (L++[es]):=by rw [tbl_app];rfl
theorem st_cons {l:List Int} {i e:Nat} {x:Int} {es:List Nat}:[D.v (.int .i64 i),D.v (.int .i64 e),D.v (.int .i64 x)]::tbl stD (wyS l e es)=tbl stD (wyS (x::l) i (e::es)):=(rfl)
theorem wy_kill {x:Int} {l:List Int} {i τ:Nat} {L:List (List Nat)}:(tbl (wyD (x::l) i) L).map (fun e=>e.map (D.kill τ))=tbl (wyD (x::l) i) L:=by simp [tbl,wyD_cons,kill_sl]
theorem wy_frz {x:Int} {l:List Int} {i τ:Nat} {ob:Ob} {L:List (List Nat)}:(tbl (wyD (x::l) i) L).map (fun e=>e.map (D.frz τ ob))=tbl (wyD (x::l) i) L:=by simp [tbl,wyD_cons,frz_sl]
theorem wy_clo {x:Int} {l:List Int} {i:Nat} {L:List (List Nat)}:(tbl (wyD (x::l) i) L).all (fun e=>e.all D.clo')=true:=by simp [tbl,wyD_cons,clo'_sl]
theorem wy_view {x:Int} {l:List Int} {i e:Nat} {es:List Nat}:viewO (some ⟨3,tbl stD (wyS (x::l) i (e::es)),true,false,.arr⟩) 3 0 (1+(wyS l e es).length)=.sl 3 (tbl stD (wyS (x::l) i (e::es))):=viewO_all (by rw [tbl_len];simp [wyS];omega)
def vsp:=And.intro vbe<|And.intro @wy_kill<|And.intro @wy_frz<|And.intro @wy_clo<|And.intro @wy_view<|And.intro @stD_mk<|And.intro @wy_app<|And.intro @st_cons @tbl_len
theorem wyS_len:∀ {l:List Int} {i:Nat} {es:List Nat},(wyS l i es).length≤l.length
  | [],_,_=>by simp [wyS]
  | _::_,_,[]=>by simp [wyS]
  | _::l,_,e::es=>by simp only [wyS,List.length_cons];have:=@wyS_len l e es;omega
def splR (g:Grammar) (w:List Int) (l:List Int) (i j:Nat) (d:D) (o:List (Option Ob)):Prop := ∃ L,(d=.sl 1 (tbl (wyD l i) (splN g w l i j))∨(d=.nl∧splN g w l i j=[]))∧o=(buO g w L).map some∧BI g w L
def spP (g:Grammar) (w:List Int) (l:List Int) (i j:Nat):Prop:=∀ L,BI g w L→Dm.SpecH Try.prog 20 [.ptr 0 6 0 0,.sl 1 (i64s l),iv .i64 i,iv .i64 j] (buO g w L) (splR g w l i j)
set_option maxRecDepth 10000 in
set_option maxHeartbeats 4000000 in
theorem spl0_spec (g:Grammar) (w:List Int) (i j:Nat) (L:List BE) (hL:BI g w L):Dm.SpecH Try.prog 20 [.ptr 0 6 0 0,.sl 1 (i64s []),iv .i64 i,iv .i64 j] (buO g w L) (splR g w [] i j):=by
  refine specH_of_vc mixed Try.func20 c20 (by rw [show Try.f20.ntmps=_ from Try.ntmps20];simp) ?_
  unfold m20 r20
  unfold buO
  by_cases h:i=j
  · have hs:splN g w [] i j=[[]]:=if_pos h
    repeat' first|((first|refine Br.dec ?_ ?_|refine Br.eqi ?_ ?_)<;>intro h<;>try (exfalso;omega))|refine Z9 ?_|with_reducible exact trivial|(refine Br.mk ?_ ?_<;>intro h)|(refine BrN.mk (fun h => ?_) ?_)|(refine AltVC.mk ?_ ?_)
    refine FinH_frz (τ:=3) (ob:=⟨1,[[.nl]],true,false,.arr⟩) Y9 Y9 rfl rfl ?_
    repeat' first|((first|refine Br.dec ?_ ?_|refine Br.eqi ?_ ?_)<;>intro h<;>try (exfalso;omega))|refine Z9 ?_|with_reducible exact trivial|(refine Br.mk ?_ ?_<;>intro h)|(refine BrN.mk (fun h => ?_) ?_)|(refine AltVC.mk ?_ ?_)
    exact finH_mk ((buO g w L).map some) (by simp [buO]) Y20 Y21 ⟨L,.inl Y28,rfl,hL⟩
  · have hs:splN g w [] i j=[]:=if_neg h
    repeat' first|((first|refine Br.dec ?_ ?_|refine Br.eqi ?_ ?_)<;>intro h<;>try (exfalso;omega))|refine Z9 ?_|with_reducible exact trivial|(refine Br.mk ?_ ?_<;>intro h)|(refine BrN.mk (fun h => ?_) ?_)|(refine AltVC.mk ?_ ?_)
    refine FinH_frz (τ:=3) (ob:=⟨1,[],true,false,.arr⟩) Y9 Y9 rfl rfl ?_
    repeat' first|((first|refine Br.dec ?_ ?_|refine Br.eqi ?_ ?_)<;>intro h<;>try (exfalso;omega))|refine Z9 ?_|with_reducible exact trivial|(refine Br.mk ?_ ?_<;>intro h)|(refine BrN.mk (fun h => ?_) ?_)|(refine AltVC.mk ?_ ?_)
    exact finH_mk ((buO g w L).map some) (by simp [buO]) Y20 Y21 ⟨L,.inl Y28,rfl,hL⟩
set_option maxRecDepth 10000 in
set_option maxHeartbeats 4000000 in
theorem spl1_spec (g : Grammar) (w : List Int) (hc : CC g w) (x : Int) (l : List Int) (hl : l.length ≤ 3) (hx : ∀ y, y ∈ x :: l → 0 ≤ y ∧ y < g.k + g.n) (i j : Nat) (hij : i ≤ j) (hj : j ≤ w.length) (ih : ∀ m, i < m → m ≤ j → spP g w l m j) (L : List BE) (hL : BI g w L) : Dm.SpecH Try.prog 20 [.ptr 0 6 0 0, .sl 1 (i64s (x :: l)), iv .i64 i, iv .i64 j] (buO g w L) (splR g w (x :: l) i j) := by
  refine specH_of_vc mixed Try.func20 c20 (by rw [show Try.f20.ntmps=_ from Try.ntmps20];simp) ?_
  unfold m20 r20
  have hw:=hc.w
  have hx0:=hx x (by simp)
  have hll:(x::l).length=l.length+1:=rfl
  have hg0:(x::l).getD 0 0=x:=rfl
  have hd1:(x::l).drop 1=l:=rfl
  unfold buO
  repeat' first|((first|refine Br.dec ?_ ?_|refine Br.eqi ?_ ?_)<;>intro h<;>try (exfalso;omega))|(simp (disch:=first|omega|(simp only [vlen];first|done|omega)) only [vsp,hll,↓vAq,vBq,↓reduceIte,Nat.reduceBEq,Nat.reduceEqDiff,Nat.reduceLT,Nat.reduceLeDiff,Nat.reduceAdd,Nat.reduceMul,Nat.reduceSub,reduceCtorEq,Int.reduceToNat])|(refine Br.mk ?_ ?_<;>intro h)|(refine BrN.mk (fun h => ?_) ?_)|(refine AltVC.mk ?_ ?_)
  refine LoopVC.mk (X:=Nat × List BE) (fun y=>[(9,.ref 3 1 0 (splP g w x l i j y.1).length),(10,iv .i64 (i+1+y.1:Nat))]) (fun y=>buL g w y.2++[(3,⟨1,tbl (wyD (x::l) i) (splP g w x l i j y.1),true,false,.arr⟩)]) (fun y=>j - i - y.1) (fun y=>y.1≤j - i∧BI g w y.2∧(splP g w x l i j y.1).length≤2197 * y.1) (0,L) ⟨Nat.zero_le _,hL,by simp [splP]⟩ ?_ ?_
  · unfold buL
    (simp (disch:=first|omega|(simp only [vlen];first|done|omega)) only [Fits_u,Fits_m,Fits_nil,List.length_append,vsp,↓vAq,vBq,↓reduceIte,Nat.reduceBEq,Nat.reduceEqDiff,Nat.reduceLT,Nat.reduceLeDiff,Nat.reduceAdd,Nat.reduceMul,Nat.reduceSub,reduceCtorEq,Int.reduceToNat]<;>(repeat' first|rfl|apply And.intro))
    all_goals first|rfl|trace_state
  · rintro ⟨q, Lx⟩ ⟨hq, hLx, hql⟩
    simp only at hq hLx hql ⊢
    unfold buL
    by_cases hqj:q<j - i
    · have hsu := @splP_succ g w x l i j q
      have hT:=bushT_spec g w hc x i (i+1+q) hx0.1 hx0.2 (by omega) (by omega) Lx hLx
      have hsm:=splN_small (g:=g) (w:=w) (l:=l) (i:=i+1+q) (j:=j) hl (by omega)
      have hnone:(trees g w x i (i+1+q)=0∨rowN g w l (i+1+q) j=0)→splP g w x l i j (q+1)=splP g w x l i j q:=fun h=>by rw [hsu,if_pos h,List.append_nil]
      repeat' first|((first|refine Br.dec ?_ ?_|refine Br.eqi ?_ ?_)<;>intro h<;>try (exfalso;omega))|(simp (disch:=first|omega|(simp only [vlen];first|done|omega)) only [vsp,hg0,↓vAq,vBq,↓reduceIte,Nat.reduceBEq,Nat.reduceEqDiff,Nat.reduceLT,Nat.reduceLeDiff,Nat.reduceAdd,Nat.reduceMul,Nat.reduceSub,reduceCtorEq,Int.reduceToNat])|(refine Br.mk ?_ ?_<;>intro h)|(refine BrN.mk (fun h => ?_) ?_)|(refine AltVC.mk ?_ ?_)
      refine CallVC.lendE [0,1] [.ptr 0 6 0 0,iv .i64 x,iv .i64 i,iv .i64 (i+1+q:Nat)] (buO g w Lx) hT (by simp) (by rfl) Y7 ?_
      rintro _ _ ⟨L2,rfl,rfl,hL2⟩
      unfold buO
      by_cases ht:trees g w x i (i+1+q)=0
      · have hcz:((cp (trees g w x i (i+1+q)):Nat):Int)=0:=by rw [ht];rfl
        repeat' first|((first|refine Br.dec ?_ ?_|refine Br.eqi ?_ ?_)<;>intro h<;>try (exfalso;omega))|(simp (disch:=first|omega|(simp only [vlen];first|done|omega)) only [vsp,hcz,↓vAq,vBq,↓reduceIte,Nat.reduceBEq,Nat.reduceEqDiff,Nat.reduceLT,Nat.reduceLeDiff,Nat.reduceAdd,Nat.reduceMul,Nat.reduceSub,reduceCtorEq,Int.reduceToNat])|(refine Br.mk ?_ ?_<;>intro h)|(refine BrN.mk (fun h => ?_) ?_)|(refine AltVC.mk ?_ ?_)
        refine loopK.mk (q+1,L2) Y0 ⟨by show q+1≤j - i;omega,hL2,by show (splP g w x l i j (q+1)).length≤_;rw [hnone (.inl ht)];omega⟩ (by show j - i - (q+1)<j - i - q;omega) ?_
        rw [hnone (.inl ht)]
        (simp (disch:=first|omega|(simp only [vlen];first|done|omega)) only [Fits_u,Fits_m,Fits_nil,List.length_append,vsp,↓vAq,vBq,↓reduceIte,Nat.reduceBEq,Nat.reduceEqDiff,Nat.reduceLT,Nat.reduceLeDiff,Nat.reduceAdd,Nat.reduceMul,Nat.reduceSub,reduceCtorEq,Int.reduceToNat]<;>(repeat' first|rfl|apply And.intro))
      · have hcz:¬ ((cp (trees g w x i (i+1+q)):Nat):Int)=0:=fun h=>ht (cp_zero.mp (by omega))
        have hR:=bushR_spec g w hc l (i+1+q) j (by omega) (fun k hk=>hx _ (by rw [List.mem_cons];exact .inr (getD_mem (l:=l) (i:=k) (d:=0) hk))) (by omega) hj L2 hL2
        repeat' first|((first|refine Br.dec ?_ ?_|refine Br.eqi ?_ ?_)<;>intro h<;>try (exfalso;omega))|refine Z37 ?_|with_reducible exact trivial|(refine Br.mk ?_ ?_<;>intro h)|(refine BrN.mk (fun h => ?_) ?_)|(refine AltVC.mk ?_ ?_)
        refine CallVC.lendE [0,1] [.ptr 0 6 0 0,.sl 1 (i64s l),iv .i64 (i+1+q:Nat),iv .i64 j] (buO g w L2) hR (by simp) (by rfl) Y7 ?_
        rintro _ _ ⟨L3,rfl,rfl,hL3⟩
        unfold buO
        by_cases hr:rowN g w l (i+1+q) j=0
        · have hrz:((cp (rowN g w l (i+1+q) j):Nat):Int)=0:=by rw [hr];rfl
          repeat' first|((first|refine Br.dec ?_ ?_|refine Br.eqi ?_ ?_)<;>intro h<;>try (exfalso;omega))|(simp (disch:=first|omega|(simp only [vlen];first|done|omega)) only [vsp,hrz,↓vAq,vBq,↓reduceIte,Nat.reduceBEq,Nat.reduceEqDiff,Nat.reduceLT,Nat.reduceLeDiff,Nat.reduceAdd,Nat.reduceMul,Nat.reduceSub,reduceCtorEq,Int.reduceToNat])|(refine Br.mk ?_ ?_<;>intro h)|(refine BrN.mk (fun h => ?_) ?_)|(refine AltVC.mk ?_ ?_)
          refine loopK.mk (q+1,L3) Y0 ⟨by show q+1≤j - i;omega,hL3,by show (splP g w x l i j (q+1)).length≤_;rw [hnone (.inr hr)];omega⟩ (by show j - i - (q+1)<j - i - q;omega) ?_
          rw [hnone (.inr hr)]
          (simp (disch:=first|omega|(simp only [vlen];first|done|omega)) only [Fits_u,Fits_m,Fits_nil,List.length_append,vsp,↓vAq,vBq,↓reduceIte,Nat.reduceBEq,Nat.reduceEqDiff,Nat.reduceLT,Nat.reduceLeDiff,Nat.reduceAdd,Nat.reduceMul,Nat.reduceSub,reduceCtorEq,Int.reduceToNat]<;>(repeat' first|rfl|apply And.intro))
        · have hrz:¬ ((cp (rowN g w l (i+1+q) j):Nat):Int)=0:=fun h=>hr (cp_zero.mp (by omega))
          rw [if_neg (fun h=>h.elim ht hr)] at hsu
          repeat' first|((first|refine Br.dec ?_ ?_|refine Br.eqi ?_ ?_)<;>intro h<;>try (exfalso;omega))|refine Z37 ?_|with_reducible exact trivial|(refine Br.mk ?_ ?_<;>intro h)|(refine BrN.mk (fun h => ?_) ?_)|(refine AltVC.mk ?_ ?_)
          refine CallVC.lendE [0,1] [.ptr 0 6 0 0,.sl 1 (i64s l),iv .i64 (i+1+q:Nat),iv .i64 j] (buO g w L3) (ih _ (by omega) (by omega) L3 hL3) (by simp) (by rfl) Y7 ?_
          rintro _ _ ⟨L4,hres,rfl,hL4⟩
          unfold buO
          rcases hres with rfl|⟨rfl,hemp⟩
          · repeat' first|((first|refine Br.dec ?_ ?_|refine Br.eqi ?_ ?_)<;>intro h<;>try (exfalso;omega))|refine Z9 ?_|with_reducible exact trivial|(refine Br.mk ?_ ?_<;>intro h)|(refine BrN.mk (fun h => ?_) ?_)|(refine AltVC.mk ?_ ?_)
            refine LoopVC.mk (X:=Nat) (fun c=>[(9,.ref 3 1 0 ((splP g w x l i j q).length+c)),(51,iv .i64 c)]) (fun c=>buL g w L4++[(3,⟨1,tbl (wyD (x::l) i) (splP g w x l i j q++((splN g w l (i+1+q) j).take c).map fun r=>(i+1+q)::r),true,false,.arr⟩)]) (fun c=>(splN g w l (i+1+q) j).length - c) (fun c=>c≤(splN g w l (i+1+q) j).length) 0 (Nat.zero_le _) ?_ ?_
            · unfold buL
              simp only [List.take_zero,List.map_nil,List.append_nil]
              (simp (disch:=first|omega|(simp only [vlen];first|done|omega)) only [Fits_u,Fits_m,Fits_nil,List.length_append,vsp,↓vAq,vBq,↓reduceIte,Nat.reduceBEq,Nat.reduceEqDiff,Nat.reduceLT,Nat.reduceLeDiff,Nat.reduceAdd,Nat.reduceMul,Nat.reduceSub,reduceCtorEq,Int.reduceToNat]<;>(repeat' first|rfl|apply And.intro))
              all_goals first|rfl|trace_state
            · intro c hcl
              unfold buL
              have hlc:(splP g w x l i j q++((splN g w l (i+1+q) j).take c).map fun r=>(i+1+q)::r).length=(splP g w x l i j q).length+c:=by rw [List.length_append,List.length_map,List.length_take];omega
              by_cases hcn:c<(splN g w l (i+1+q) j).length
              · have htc:splP g w x l i j q++((splN g w l (i+1+q) j).take (c+1)).map (fun r=>(i+1+q)::r)=(splP g w x l i j q++((splN g w l (i+1+q) j).take c).map fun r=>(i+1+q)::r)++[(i+1+q)::(splN g w l (i+1+q) j).getD c default]:=by
                  rw [List.take_add_one,List.getElem?_eq_getElem hcn,List.map_append,List.append_assoc]
                  simp [List.getD,hcn]
                have hwl:=splN_wlen (getD_mem' (l:=splN g w l (i+1+q) j) (i:=c) hcn)
                generalize hLs:(splP g w x l i j q++((splN g w l (i+1+q) j).take c).map fun r=>(i+1+q)::r)=Ls at hlc htc ⊢
                generalize hes:(splN g w l (i+1+q) j).getD c default=es at htc hwl ⊢
                have hrow:tbl (wyD (x::l) i) (Ls++[(i+1+q)::es])=tbl (wyD (x::l) i) Ls++[[D.sl 3 ([D.v (.int .i64 i),D.v (.int .i64 (i+1+q:Nat)),D.v (.int .i64 x)]::tbl stD (wyS l (i+1+q) es))]]:=by rw [tbl_app];rfl
                rcases (show l=[]∨l ≠ [] by by_cases h:l=[]<;>simp [h]) with hl0|hl0
                · have hwy:wyD l (i+1+q) es=[.nl]:=by unfold wyD;rw [if_pos hl0]
                  have hws:wyS l (i+1+q) es=[]:=by rw [hl0];rfl
                  rw [hws] at hrow
                  repeat' first|((first|refine Br.dec ?_ ?_|refine Br.eqi ?_ ?_)<;>intro h<;>try (exfalso;omega))|refine Z16 ?_|with_reducible exact trivial|(refine Br.mk ?_ ?_<;>intro h)|(refine BrN.mk (fun h => ?_) ?_)|(refine AltVC.mk ?_ ?_)
                  refine loopK.frz 4 ?_
                  repeat' first|((first|refine Br.dec ?_ ?_|refine Br.eqi ?_ ?_)<;>intro h<;>try (exfalso;omega))|refine Z16 ?_|with_reducible exact trivial|(refine Br.mk ?_ ?_<;>intro h)|(refine BrN.mk (fun h => ?_) ?_)|(refine AltVC.mk ?_ ?_)
                  refine loopK.flt 3 ?_
                  repeat' first|((first|refine Br.dec ?_ ?_|refine Br.eqi ?_ ?_)<;>intro h<;>try (exfalso;omega))|refine Z16 ?_|with_reducible exact trivial|(refine Br.mk ?_ ?_<;>intro h)|(refine BrN.mk (fun h => ?_) ?_)|(refine AltVC.mk ?_ ?_)
                  refine loopK.mk (c+1) Y0 (by show c+1≤(splN g w l (i+1+q) j).length;omega) (by show (splN g w l (i+1+q) j).length - (c+1)<(splN g w l (i+1+q) j).length - c;omega) ?_
                  rw [htc,hrow]
                  (simp (disch:=first|omega|(simp only [vlen];first|done|omega)) only [Fits_u,Fits_m,Fits_nil,List.length_append,vsp,hlc,↓vAq,vBq,↓reduceIte,Nat.reduceBEq,Nat.reduceEqDiff,Nat.reduceLT,Nat.reduceLeDiff,Nat.reduceAdd,Nat.reduceMul,Nat.reduceSub,reduceCtorEq,Int.reduceToNat]<;>(repeat' first|rfl|apply And.intro))
                  all_goals first|rfl|trace_state
                · have hwsl:=@wyS_len l (i+1+q) es
                  have hwy:wyD l (i+1+q) es=[.sl 3 (tbl stD (wyS l (i+1+q) es))]:=by unfold wyD;rw [if_neg hl0]
                  repeat' first|((first|refine Br.dec ?_ ?_|refine Br.eqi ?_ ?_)<;>intro h<;>try (exfalso;omega))|refine Z16 ?_|with_reducible exact trivial|(refine Br.mk ?_ ?_<;>intro h)|(refine BrN.mk (fun h => ?_) ?_)|(refine AltVC.mk ?_ ?_)
                  refine loopK.frz 4 ?_
                  repeat' first|((first|refine Br.dec ?_ ?_|refine Br.eqi ?_ ?_)<;>intro h<;>try (exfalso;omega))|refine Z16 ?_|with_reducible exact trivial|(refine Br.mk ?_ ?_<;>intro h)|(refine BrN.mk (fun h => ?_) ?_)|(refine AltVC.mk ?_ ?_)
                  refine loopK.flt 3 ?_
                  repeat' first|((first|refine Br.dec ?_ ?_|refine Br.eqi ?_ ?_)<;>intro h<;>try (exfalso;omega))|refine Z16 ?_|with_reducible exact trivial|(refine Br.mk ?_ ?_<;>intro h)|(refine BrN.mk (fun h => ?_) ?_)|(refine AltVC.mk ?_ ?_)
                  refine loopK.mk (c+1) Y0 (by show c+1≤(splN g w l (i+1+q) j).length;omega) (by show (splN g w l (i+1+q) j).length - (c+1)<(splN g w l (i+1+q) j).length - c;omega) ?_
                  rw [htc,hrow]
                  (simp (disch:=first|omega|(simp only [vlen];first|done|omega)) only [Fits_u,Fits_m,Fits_nil,List.length_append,vsp,hlc,↓vAq,vBq,↓reduceIte,Nat.reduceBEq,Nat.reduceEqDiff,Nat.reduceLT,Nat.reduceLeDiff,Nat.reduceAdd,Nat.reduceMul,Nat.reduceSub,reduceCtorEq,Int.reduceToNat]<;>(repeat' first|rfl|apply And.intro))
                  all_goals first|rfl|trace_state
              · have hce:c=(splN g w l (i+1+q) j).length:=by omega
                subst hce
                rw [List.take_length] at hlc ⊢
                rw [← hsu] at hlc ⊢
                repeat' first|((first|refine Br.dec ?_ ?_|refine Br.eqi ?_ ?_)<;>intro h<;>try (exfalso;omega))|refine Z9 ?_|with_reducible exact trivial|(refine Br.mk ?_ ?_<;>intro h)|(refine BrN.mk (fun h => ?_) ?_)|(refine AltVC.mk ?_ ?_)
                refine loopK.mk (q+1,L4) Y0 ⟨by show q+1≤j - i;omega,hL4,by show (splP g w x l i j (q+1)).length≤_;omega⟩ (by show j - i - (q+1)<j - i - q;omega) ?_
                rw [hlc]
                (simp (disch:=first|omega|(simp only [vlen];first|done|omega)) only [Fits_u,Fits_m,Fits_nil,List.length_append,vsp,↓vAq,vBq,↓reduceIte,Nat.reduceBEq,Nat.reduceEqDiff,Nat.reduceLT,Nat.reduceLeDiff,Nat.reduceAdd,Nat.reduceMul,Nat.reduceSub,reduceCtorEq,Int.reduceToNat]<;>(repeat' first|rfl|apply And.intro))
                all_goals first|rfl|trace_state
          · rw [hemp,List.map_nil,List.append_nil] at hsu
            repeat' first|((first|refine Br.dec ?_ ?_|refine Br.eqi ?_ ?_)<;>intro h<;>try (exfalso;omega))|refine Z9 ?_|with_reducible exact trivial|(refine Br.mk ?_ ?_<;>intro h)|(refine BrN.mk (fun h => ?_) ?_)|(refine AltVC.mk ?_ ?_)
            refine LoopVC.mk (X:=Unit) (fun _=>[(9,.ref 3 1 0 (splP g w x l i j q).length),(51,iv .i64 0)]) (fun _=>buL g w L4++[(3,⟨1,tbl (wyD (x::l) i) (splP g w x l i j q),true,false,.arr⟩)]) (fun _=>0) (fun _=>True) () trivial ?_ ?_
            · unfold buL
              (simp (disch:=first|omega|(simp only [vlen];first|done|omega)) only [Fits_u,Fits_m,Fits_nil,List.length_append,vsp,↓vAq,vBq,↓reduceIte,Nat.reduceBEq,Nat.reduceEqDiff,Nat.reduceLT,Nat.reduceLeDiff,Nat.reduceAdd,Nat.reduceMul,Nat.reduceSub,reduceCtorEq,Int.reduceToNat]<;>(repeat' first|rfl|apply And.intro))
              all_goals first|rfl|trace_state
            · rintro _ _
              unfold buL
              repeat' first|((first|refine Br.dec ?_ ?_|refine Br.eqi ?_ ?_)<;>intro h<;>try (exfalso;omega))|refine Z9 ?_|with_reducible exact trivial|(refine Br.mk ?_ ?_<;>intro h)|(refine BrN.mk (fun h => ?_) ?_)|(refine AltVC.mk ?_ ?_)
              refine loopK.mk (q+1,L4) Y0 ⟨by show q+1≤j - i;omega,hL4,by show (splP g w x l i j (q+1)).length≤_;rw [hsu];omega⟩ (by show j - i - (q+1)<j - i - q;omega) ?_
              rw [hsu]
              (simp (disch:=first|omega|(simp only [vlen];first|done|omega)) only [Fits_u,Fits_m,Fits_nil,List.length_append,vsp,↓vAq,vBq,↓reduceIte,Nat.reduceBEq,Nat.reduceEqDiff,Nat.reduceLT,Nat.reduceLeDiff,Nat.reduceAdd,Nat.reduceMul,Nat.reduceSub,reduceCtorEq,Int.reduceToNat]<;>(repeat' first|rfl|apply And.intro))
              all_goals first|rfl|trace_state
    · have hqe:q=j - i:=by omega
      subst hqe
      repeat' first|((first|refine Br.dec ?_ ?_|refine Br.eqi ?_ ?_)<;>intro h<;>try (exfalso;omega))|refine Z9 ?_|with_reducible exact trivial|(refine Br.mk ?_ ?_<;>intro h)|(refine BrN.mk (fun h => ?_) ?_)|(refine AltVC.mk ?_ ?_)
      refine FinH_frz (τ:=3) (ob:=⟨1,tbl (wyD (x::l) i) (splP g w x l i j (j - i)),true,false,.arr⟩) Y9 Y9 rfl rfl ?_
      repeat' first|((first|refine Br.dec ?_ ?_|refine Br.eqi ?_ ?_)<;>intro h<;>try (exfalso;omega))|refine Z9 ?_|with_reducible exact trivial|(refine Br.mk ?_ ?_<;>intro h)|(refine BrN.mk (fun h => ?_) ?_)|(refine AltVC.mk ?_ ?_)
      exact finH_mk ((buO g w Lx).map some) (by simp [buO]) Y20 Y21 ⟨Lx,.inl (by rw [splN_cons];simp (disch:=first|omega|(simp only [vlen];first|done|omega)) only [vsp,↓vAq,vBq,↓reduceIte,Nat.reduceBEq,Nat.reduceEqDiff,Nat.reduceLT,Nat.reduceLeDiff,Nat.reduceAdd,Nat.reduceMul,Nat.reduceSub,reduceCtorEq,Int.reduceToNat]),rfl,hLx⟩
theorem spl_all (g:Grammar) (w:List Int) (hc:CC g w):∀ (l:List Int),l.length≤4→(∀ y,y ∈ l→0≤y∧y<g.k+g.n)→∀ i j,i≤j→j≤w.length→spP g w l i j
  | [],_,_,i,j,_,_=>fun L hL=>spl0_spec g w i j L hL
  | x::l,hl,hx,i,j,hij,hj=>fun L hL=>spl1_spec g w hc x l (by simp only [List.length_cons] at hl;omega) hx i j hij hj (fun m h1 h2=>spl_all g w hc l (by simp only [List.length_cons] at hl;omega) (fun y hy=>hx y (List.mem_cons_of_mem _ hy)) m j h2 hj) L hL
end Go.Proofs.Ytcclchnbjpncdaa

namespace Go.Proofs.Ytcclchnbjpncdaa
open Go.Dm
theorem stD_eq {s:St}:stD s=[D.v (.int .i64 s.1),D.v (.int .i64 s.2.1),D.v (.int .i64 s.2.2)]:=(rfl)
def vtr:=And.intro vbe<|And.intro @stD_eq @tbl_len
set_option maxRecDepth 10000 in
set_option maxHeartbeats 4000000 in
theorem before_spec (a b:St):Dm.Spec Try.prog 22 [.ag (stD a),.ag (stD b)] (·=.v (.bool (slt a b))):=by
  refine spec_of_vc mixed Try.func22 c22 (by rw [show Try.f22.ntmps=_ from Try.ntmps22];simp) ?_
  unfold m22 r22
  repeat' first|((first|refine Br.dec ?_ ?_|refine Br.eqi ?_ ?_)<;>intro h<;>try (exfalso;omega))|refine Z12 ?_|with_reducible exact trivial|(refine Br.mk ?_ ?_<;>intro h)|(refine BrN.mk (fun h => ?_) ?_)|(refine AltVC.mk ?_ ?_)
  all_goals
    refine fin_mk (vbEq ?_)
    unfold slt
    rw [Bool.eq_iff_iff]
    simp only [decide_eq_true_eq]
    omega
set_option maxRecDepth 10000 in
set_option maxHeartbeats 4000000 in
theorem lesser_spec (u v : List Int) (hu : u.length ≤ 1000) (hv : v.length ≤ 1000) : Dm.Spec Try.prog 23 [.sl 1 (i64s u), .sl 1 (i64s v)] (· = .v (.bool (decide (lcmp u v < 0)))) := by
  refine spec_of_vc mixed Try.func23 c23 (by rw [show Try.f23.ntmps=_ from Try.ntmps23];simp) ?_
  unfold m23 r23
  repeat' first|((first|refine Br.dec ?_ ?_|refine Br.eqi ?_ ?_)<;>intro h<;>try (exfalso;omega))|refine Z12 ?_|with_reducible exact trivial|(refine Br.mk ?_ ?_<;>intro h)|(refine BrN.mk (fun h => ?_) ?_)|(refine AltVC.mk ?_ ?_)
  refine LoopVC.mk (X:=Nat) (fun k=>[(5,iv .i64 k)]) (fun _=>[]) (fun k=>u.length - k) (fun k=>k≤u.length∧k≤v.length∧∀ j,j<k→u.getD j 0=v.getD j 0) 0 ⟨Nat.zero_le _,Nat.zero_le _,fun j hj=>absurd hj (Nat.not_lt_zero _)⟩ ?_ ?_
  · (simp (disch:=first|omega|(simp only [vlen];first|done|omega)) only [Fits_u,Fits_m,Fits_nil,List.length_append,vtr,↓vAq,vBq,↓reduceIte,Nat.reduceBEq,Nat.reduceEqDiff,Nat.reduceLT,Nat.reduceLeDiff,Nat.reduceAdd,Nat.reduceMul,Nat.reduceSub,reduceCtorEq,Int.reduceToNat]<;>(repeat' first|rfl|apply And.intro))
  · rintro k ⟨h1,h2,h3⟩
    repeat' first|((first|refine Br.dec ?_ ?_|refine Br.eqi ?_ ?_)<;>intro h<;>try (exfalso;omega))|refine Z12 ?_|with_reducible exact trivial|(refine Br.mk ?_ ?_<;>intro h)|(refine BrN.mk (fun h => ?_) ?_)|(refine AltVC.mk ?_ ?_)
    · have he:=h
      refine loopK.mk (k+1) Y22 ⟨by omega,by omega,fun j hj => ?_⟩ (by omega) ?_
      · by_cases e:j=k
        · rw [e];exact he
        · exact h3 j (by omega)
      · (simp (disch:=first|omega|(simp only [vlen];first|done|omega)) only [Fits_u,Fits_m,Fits_nil,List.length_append,vtr,↓vAq,vBq,↓reduceIte,Nat.reduceBEq,Nat.reduceEqDiff,Nat.reduceLT,Nat.reduceLeDiff,Nat.reduceAdd,Nat.reduceMul,Nat.reduceSub,reduceCtorEq,Int.reduceToNat]<;>(repeat' first|rfl|apply And.intro))
        all_goals first|rfl|trace_state
    · have he:=h
      refine fin_mk (vbEq ?_)
      have hne:cmpI (u.getD k 0) (v.getD k 0) ≠ 0:=fun h=>he (cmpI_zero h)
      rw [lcmp_ne (by omega) (by omega) h3 hne]
      exact decide_eq_decide.2 cmpI_lt_iff.symm
    · skip
      refine fin_mk (vbEq ?_)
      have e:k=v.length:=by omega
      subst e
      rw [lcmp_long (by omega) h3]
      exact decide_eq_decide.2 (by omega)
    · skip
      refine fin_mk (vbEq ?_)
      have e:k=u.length:=by omega
      subst e
      by_cases hlt:u.length<v.length
      · rw [lcmp_short hlt h3]
        exact decide_eq_decide.2 (by omega)
      · rw [lcmp_same (by omega) h3]
        exact decide_eq_decide.2 (by omega)
set_option maxRecDepth 10000 in
set_option maxHeartbeats 4000000 in
theorem number_spec (all : List St) (p : St) (hl : all.length ≤ 1000000) : Dm.Spec Try.prog 21 [.ag (stD p), .ip [.sl 3 (tbl stD all)] 0] (· = iv .i64 (rkS all p : Nat)) := by
  refine spec_of_vc mixed Try.func21 c21 (by rw [show Try.f21.ntmps=_ from Try.ntmps21];simp) ?_
  unfold m21 r21
  repeat' first|((first|refine Br.dec ?_ ?_|refine Br.eqi ?_ ?_)<;>intro h<;>try (exfalso;omega))|refine Z12 ?_|with_reducible exact trivial|(refine Br.mk ?_ ?_<;>intro h)|(refine BrN.mk (fun h => ?_) ?_)|(refine AltVC.mk ?_ ?_)
  refine LoopVC.mk (X:=Nat) (fun k=>[(2,.ptr 0 3 0 0),(4,iv .i64 (rkS (all.take k) p:Nat)),(9,iv .i64 k)]) (fun k=>[(0,⟨3,[[iv .i64 p.1,iv .i64 p.2.1,iv .i64 p.2.2]],true,false,.fix⟩)]) (fun k=>all.length - k) (fun k=>k≤all.length) 0 (Nat.zero_le _) ?_ ?_
  · (simp (disch:=first|omega|(simp only [vlen];first|done|omega)) only [Fits_u,Fits_m,Fits_nil,List.length_append,vtr,↓vAq,vBq,↓reduceIte,Nat.reduceBEq,Nat.reduceEqDiff,Nat.reduceLT,Nat.reduceLeDiff,Nat.reduceAdd,Nat.reduceMul,Nat.reduceSub,reduceCtorEq,Int.reduceToNat]<;>(repeat' first|rfl|apply And.intro))
    all_goals first|rfl|trace_state
  · intro k hk
    have hrl:rkS (all.take k) p≤k:=by
      unfold rkS
      refine Nat.le_trans (List.length_filter_le _ _) ?_
      rw [List.length_take];omega
    by_cases hkl:k<all.length
    · have hs:rkS (all.take (k+1)) p=rkS (all.take k) p+if slt (all.getD k default) p=true then 1 else 0:=by
        unfold rkS
        rw [take_succ_getD hkl default,List.filter_append,List.length_append]
        generalize all.getD k default=y
        by_cases h:slt y p=true
        · rw [if_pos h];simp [List.filter_cons,h]
        · rw [if_neg h];simp [List.filter_cons,h]
      have hb:=before_spec (all.getD k default) p
      by_cases h:slt (all.getD k default) p=true
      · rw [if_pos h] at hs
        rw [h] at hb
        repeat' first|((first|refine Br.dec ?_ ?_|refine Br.eqi ?_ ?_)<;>intro h<;>try (exfalso;omega))|refine Z12 ?_|with_reducible exact trivial|(refine Br.mk ?_ ?_<;>intro h)|(refine BrN.mk (fun h => ?_) ?_)|(refine AltVC.mk ?_ ?_)
        refine CallVC.eq hb ?_
        repeat' first|((first|refine Br.dec ?_ ?_|refine Br.eqi ?_ ?_)<;>intro h<;>try (exfalso;omega))|refine Z12 ?_|with_reducible exact trivial|(refine Br.mk ?_ ?_<;>intro h)|(refine BrN.mk (fun h => ?_) ?_)|(refine AltVC.mk ?_ ?_)
        refine loopK.mk (k+1) Y22 (by omega) (by omega) ?_
        rw [hs]
        (simp (disch:=first|omega|(simp only [vlen];first|done|omega)) only [Fits_u,Fits_m,Fits_nil,List.length_append,vtr,↓vAq,vBq,↓reduceIte,Nat.reduceBEq,Nat.reduceEqDiff,Nat.reduceLT,Nat.reduceLeDiff,Nat.reduceAdd,Nat.reduceMul,Nat.reduceSub,reduceCtorEq,Int.reduceToNat]<;>(repeat' first|rfl|apply And.intro))
        all_goals first|rfl|trace_state
      · rw [if_neg h,Nat.add_zero] at hs
        have h':slt (all.getD k default) p=false:=by simpa using h
        rw [h'] at hb
        repeat' first|((first|refine Br.dec ?_ ?_|refine Br.eqi ?_ ?_)<;>intro h<;>try (exfalso;omega))|refine Z12 ?_|with_reducible exact trivial|(refine Br.mk ?_ ?_<;>intro h)|(refine BrN.mk (fun h => ?_) ?_)|(refine AltVC.mk ?_ ?_)
        refine CallVC.eq hb ?_
        repeat' first|((first|refine Br.dec ?_ ?_|refine Br.eqi ?_ ?_)<;>intro h<;>try (exfalso;omega))|refine Z12 ?_|with_reducible exact trivial|(refine Br.mk ?_ ?_<;>intro h)|(refine BrN.mk (fun h => ?_) ?_)|(refine AltVC.mk ?_ ?_)
        refine loopK.mk (k+1) Y22 (by omega) (by omega) ?_
        rw [hs]
        (simp (disch:=first|omega|(simp only [vlen];first|done|omega)) only [Fits_u,Fits_m,Fits_nil,List.length_append,vtr,↓vAq,vBq,↓reduceIte,Nat.reduceBEq,Nat.reduceEqDiff,Nat.reduceLT,Nat.reduceLeDiff,Nat.reduceAdd,Nat.reduceMul,Nat.reduceSub,reduceCtorEq,Int.reduceToNat]<;>(repeat' first|rfl|apply And.intro))
        all_goals first|rfl|trace_state
    · have hke:k=all.length:=by omega
      subst hke
      rw [List.take_length] at hrl ⊢
      repeat' first|((first|refine Br.dec ?_ ?_|refine Br.eqi ?_ ?_)<;>intro h<;>try (exfalso;omega))|refine Z12 ?_|with_reducible exact trivial|(refine Br.mk ?_ ?_<;>intro h)|(refine BrN.mk (fun h => ?_) ?_)|(refine AltVC.mk ?_ ?_)
      exact fin_mk rfl
end Go.Proofs.Ytcclchnbjpncdaa

namespace Go.Proofs.Ytcclchnbjpncdaa
open Go.Dm
theorem specH_le {P:Program} {f:FuncId} {ds:List D} {obs:List Ob} {R R':D→List (Option Ob)→Prop} (h:Dm.SpecH P f ds obs R) (hr:∀ d o,R d o → ∃ d',R' d' o∧∀ w A β N x,DR w A β N d x→DR w A β N d' x):Dm.SpecH P f ds obs R' :=
  ⟨h.1,fun w A β γ vs h1 h2 h3=>(h.2 w A β γ vs h1 h2 h3).mono fun e w' ⟨x,d,l,A',β',γ',q1,q2,q3,q4⟩=>by
    obtain ⟨d',r1,r2⟩:=hr d l q2
    exact ⟨x,d',l,A',β',γ',q1,r1,q3,r2 _ _ _ _ _ q4⟩⟩
def splR2 (g:Grammar) (w:List Int) (l:List Int) (i j:Nat) (d:D) (o:List (Option Ob)):Prop := ∃ L,d=.sl 1 (tbl (wyD l i) (splN g w l i j))∧o=(buO g w L).map some∧BI g w L
theorem nl_sl {w:World} {A:Nat→Prop} {β:Nat→Option Nat} {N sz:Nat} {x:Value} (h:DR w A β N .nl x):DR w A β N (.sl sz []) x:=by
  cases h with
  | cl d x h =>
    cases h with
    | nl=>exact .cl _ _ (.sl0 _ _ _)
theorem splits_spec2 (g:Grammar) (w:List Int) (hc:CC g w) (l:List Int) (hl:l.length≤4) (hx:∀ y,y ∈ l→0≤y∧y<g.k+g.n) (i j:Nat) (hij:i≤j) (hj:j≤w.length) (L:List BE) (hL:BI g w L):Dm.SpecH Try.prog 20 [.ptr 0 6 0 0,.sl 1 (i64s l),iv .i64 i,iv .i64 j] (buO g w L) (splR2 g w l i j) :=
  specH_le (spl_all g w hc l hl hx i j hij hj L hL) fun d o ⟨L',h1,h2,h3⟩=>by
    rcases h1 with rfl|⟨rfl,e⟩
    · exact ⟨_,⟨L',rfl,h2,h3⟩,fun _ _ _ _ _ h=>h⟩
    · exact ⟨.sl 1 [],⟨L',by rw [e];rfl,h2,h3⟩,fun _ _ _ _ _ h=>nl_sl h⟩
structure BF (g:Grammar) (w:List Int) (r s:St) (k:Nat) (all:List St) (dn:St→Prop):Prop where
  nd:all.Nodup
  hd:0<all.length∧all.getD 0 default=r
  sd:∀ s,s ∈ all→TRc g w r s
  kl:k<all.length
  sk:all.getD k default=s
  cl:∀ j,j<k→KidsIn g w all (all.getD j default)
  dn:∀ p,dn p→p ∈ all
theorem BF.more {g:Grammar} {w:List Int} {r s p:St} {k:Nat} {all:List St} {dn dn':St→Prop} (h:BF g w r s k all dn) (hp:p ∈ all) (hd:∀ y,dn' y→dn y∨y=p):BF g w r s k all dn' :=
  ⟨h.nd,h.hd,h.sd,h.kl,h.sk,h.cl,fun y hy=>by
    rcases hd y hy with q|q
    · exact h.dn y q
    · rw [q];exact hp⟩
theorem BF.same {g:Grammar} {w:List Int} {r s:St} {k:Nat} {all:List St} {dn dn':St→Prop} (h:BF g w r s k all dn) (hd:∀ y,dn' y→dn y):BF g w r s k all dn' :=
  ⟨h.nd,h.hd,h.sd,h.kl,h.sk,h.cl,fun y hy=>h.dn y (hd y hy)⟩
theorem getD_appL {α:Type} {l m:List α} {i:Nat} {d:α} (h:i<l.length):(l++m).getD i d=l.getD i d:=by simp [List.getD,List.getElem?_append_left h]
theorem BF.app {g:Grammar} {w:List Int} {r s p:St} {k:Nat} {all:List St} {dn dn':St→Prop} (h:BF g w r s k all dn) (hp:p ∉ all) (ht:TRc g w r p) (hd:∀ y,dn' y→dn y∨y=p):BF g w r s k (all++[p]) dn':=by
  refine ⟨?_,⟨by simp,by rw [getD_appL h.hd.1];exact h.hd.2⟩,fun y hy => ?_,by rw [List.length_append];have:=h.kl;omega,by rw [getD_appL h.kl];exact h.sk,fun j hj x hx q hq => ?_,fun y hy => ?_⟩
  · rw [List.nodup_append]
    exact ⟨h.nd,by simp,fun a ha b hb=>by
      have:b=p:=by simpa using hb
      subst this
      exact fun e=>hp (e ▸ ha)⟩
  · rcases List.mem_append.1 hy with hy|hy
    · exact h.sd y hy
    · have:y=p:=by simpa using hy
      rw [this];exact ht
  · have hjl:j<all.length:=by have:=h.kl;omega
    rw [getD_appL hjl] at hx
    exact List.mem_append_left _ (h.cl j hj x hx q hq)
  · rcases hd y hy with q|q
    · exact List.mem_append_left _ (h.dn y q)
    · rw [q];simp
structure BG (g:Grammar) (w:List Int) (r:St) (k:Nat) (all:List St):Prop where
  nd:all.Nodup
  hd:0<all.length∧all.getD 0 default=r
  sd:∀ s,s ∈ all→TRc g w r s
  kl:k≤all.length
  cl:∀ j,j<k→KidsIn g w all (all.getD j default)
theorem BG.start {g:Grammar} {w:List Int} {r:St}:BG g w r 0 [r]:=⟨by simp,⟨by simp,rfl⟩,fun s hs=>by
  have:s=r:=by simpa using hs
  rw [this];exact .root,Nat.zero_le _,fun j hj=>absurd hj (Nat.not_lt_zero _)⟩
theorem BG.bf {g:Grammar} {w:List Int} {r:St} {k:Nat} {all:List St} (h:BG g w r k all) (hk:k<all.length):BF g w r (all.getD k default) k all fun _=>False:=⟨h.nd,h.hd,h.sd,hk,rfl,h.cl,fun _ q=>q.elim⟩
def DnR (g:Grammar) (w:List Int) (s:St) (q:Nat) (p:St):Prop := ∃ q',q'<q ∧ ∃ x,x ∈ kwQ g w s q'∧p ∈ x.2
theorem BF.bg {g:Grammar} {w:List Int} {r s:St} {k:Nat} {all:List St} (h:BF g w r s k all (DnR g w s g.rules.length)):BG g w r (k+1) all :=
  ⟨h.nd,h.hd,h.sd,h.kl,fun j hj=>by
    by_cases e:j=k
    · rw [e,h.sk]
      intro x hx p hp
      obtain ⟨q,hq,hx2⟩:=List.mem_flatMap.1 (show x ∈ (List.range g.rules.length).flatMap (kwQ g w s) from hx)
      exact h.dn p ⟨q,List.mem_range.1 hq,x,hx2,hp⟩
    · exact h.cl j (by omega)⟩
theorem BG.clos {g:Grammar} {w:List Int} {r:St} {all:List St} (h:BG g w r all.length all):Clos g w r all :=
  ⟨h.nd,by rw [← h.hd.2];exact getD_mem' (l:=all) (i:=0) h.hd.1,h.sd,fun s hs=>by
    obtain ⟨j,hj,e⟩:=List.getElem_of_mem hs
    have:=h.cl j hj
    rwa [show all.getD j default=s by simp [List.getD,hj,e]] at this⟩
theorem BF.few {g:Grammar} {w:List Int} (hc:CC g w) {r s:St} (hr:OkS g w r) {k:Nat} {all:List St} {dn:St→Prop} (h:BF g w r s k all dn):all.length≤1352:=spots_few hc h.nd fun s hs=>TRc.ok hc hr (h.sd s hs)
theorem BG.few {g:Grammar} {w:List Int} (hc:CC g w) {r:St} (hr:OkS g w r) {k:Nat} {all:List St} (h:BG g w r k all):all.length≤1352:=spots_few hc h.nd fun s hs=>TRc.ok hc hr (h.sd s hs)
def DnW (dn:St→Prop) (Sp:List (List St)) (c:Nat) (p:St):Prop:=dn p ∨ ∃ c',c'<c∧p ∈ Sp.getD c' default
def DnE (dn:St→Prop) (l:List St) (e:Nat) (p:St):Prop:=dn p ∨ ∃ e',e'<e∧l.getD e' default=p
theorem DnW.zero {dn:St→Prop} {Sp:List (List St)} {p:St} (h:DnW dn Sp 0 p):dn p:=by
  rcases h with h|⟨c,h,_⟩
  · exact h
  · exact absurd h (Nat.not_lt_zero _)
theorem DnE.zero {dn:St→Prop} {l:List St} {p:St} (h:DnE dn l 0 p):dn p:=by
  rcases h with h|⟨c,h,_⟩
  · exact h
  · exact absurd h (Nat.not_lt_zero _)
theorem DnE.succ {dn:St→Prop} {l:List St} {e:Nat} {p:St} (h:DnE dn l (e+1) p):DnE dn l e p∨p=l.getD e default:=by
  rcases h with h|⟨c,h,h2⟩
  · exact .inl (.inl h)
  · by_cases e':c=e
    · subst e';exact .inr h2.symm
    · exact .inl (.inr ⟨c,by omega,h2⟩)
theorem gdE {α:Type} {l:List α} {i:Nat} {d:α} (h:i<l.length):l.getD i d=l[i]:=by simp [List.getD,h]
theorem DnW.succ {dn:St→Prop} {Sp:List (List St)} {c:Nat} {p:St} (h:DnW dn Sp (c+1) p):DnE (DnW dn Sp c) (Sp.getD c default) (Sp.getD c default).length p:=by
  rcases h with h|⟨c',h,h2⟩
  · exact .inl (.inl h)
  · by_cases e:c'=c
    · subst e
      obtain ⟨i,hi,e⟩:=List.getElem_of_mem h2
      exact .inr ⟨i,hi,by rw [gdE hi];exact e⟩
    · exact .inl (.inr ⟨c',by omega,h2⟩)
theorem DnR.zero {g:Grammar} {w:List Int} {s p:St} (h:DnR g w s 0 p):False:=by
  obtain ⟨q,h,_⟩:=h
  exact absurd h (Nat.not_lt_zero _)
theorem DnR.miss {g:Grammar} {w:List Int} {s p:St} {q:Nat} (hx:¬ g.k+(g.rules.getD q default).left=s.2.2) (h:DnR g w s (q+1) p):DnR g w s q p:=by
  obtain ⟨q',h1,x,h2,h3⟩:=h
  by_cases e:q'=q
  · subst e
    unfold kwQ at h2
    rw [if_neg hx] at h2
    cases h2
  · exact ⟨q',by omega,x,h2,h3⟩
theorem DnR.hit {g:Grammar} {w:List Int} {s p:St} {q:Nat} (hx:g.k+(g.rules.getD q default).left=s.2.2) (h:DnR g w s (q+1) p):DnW (DnR g w s q) ((splN g w (g.rules.getD q default).right s.1 s.2.1).map (wyS (g.rules.getD q default).right s.1)) (splN g w (g.rules.getD q default).right s.1 s.2.1).length p:=by
  obtain ⟨q',h1,x,h2,h3⟩:=h
  by_cases e:q'=q
  · subst e
    unfold kwQ at h2
    rw [if_pos hx] at h2
    obtain ⟨es,h4,rfl⟩:=List.mem_map.1 h2
    obtain ⟨i,hi,e⟩:=List.getElem_of_mem h4
    refine .inr ⟨i,hi,?_⟩
    have:((splN g w (g.rules.getD q' default).right s.1 s.2.1).map (wyS (g.rules.getD q' default).right s.1)).getD i default=wyS (g.rules.getD q' default).right s.1 es:=by rw [List.getD_eq_getElem?_getD,List.getElem?_map,List.getElem?_eq_getElem hi,e];rfl
    rw [this];exact h3
  · exact .inl ⟨q',by omega,x,h2,h3⟩
theorem sp_tr {g:Grammar} {w:List Int} {r s:St} {q:Nat} {es:List Nat} {p:St} (hs:TRc g w r s) (hq:q<g.rules.length) (hx:g.k+(g.rules.getD q default).left=s.2.2) (he:es ∈ splN g w (g.rules.getD q default).right s.1 s.2.1) (hp:p ∈ wyS (g.rules.getD q default).right s.1 es):TRc g w r p :=
  .step hs (kw_mem.2 ⟨q,es,hq,hx,he,rfl⟩) hp
end Go.Proofs.Ytcclchnbjpncdaa

namespace Go.Proofs.Ytcclchnbjpncdaa
open Go.Dm
abbrev Ww:=List (List Int)
def iwp (l:Ww) (b:Nat):Ww:=(l.set (b+1) (l.getD b default)).set b (l.getD (b+1) default)
theorem iwp_get {l:Ww} {b p:Nat} (h:b+1<l.length):(iwp l b).getD p default=if p=b then l.getD (b+1) default else if p=b+1 then l.getD b default else l.getD p default:=by
  unfold iwp
  simp only [List.getD_eq_getElem?_getD,List.getElem?_set,List.length_set]
  by_cases e1:p=b
  · subst e1;simp;rw [if_pos (by omega)];rfl
  · rw [if_neg (fun e=>e1 e.symm),if_neg e1]
    by_cases e2:p=b+1
    · subst e2;rw [if_pos rfl,if_pos rfl,if_pos h];rfl
    · rw [if_neg (fun e=>e2 e.symm),if_neg e2]
theorem iwp_perm {l:Ww} {b:Nat} (h:b+1<l.length):(iwp l b).Perm l:=by
  have e1:l.getD b default=l[b]:=by simp [List.getD_eq_getElem?_getD,show b<l.length by omega]
  have e2:l.getD (b+1) default=l[b+1]:=by simp [List.getD_eq_getElem?_getD,h]
  unfold iwp
  rw [e1,e2]
  exact List.set_set_perm h (by omega)
def wlt (u v:List Int):Prop:=lcmp u v<0
theorem wlt_asym {u v:List Int} (h:wlt u v):¬ wlt v u:=fun k=>by
  have:=lcmp_trans h k
  rw [lcmp_self] at this
  omega
theorem wlt_le {x p b:List Int} (h:wlt x p) (k:¬ wlt b p):wlt x b:=by
  by_cases e:p=b
  · rw [← e];exact h
  · have h1:lcmp p b ≠ 0:=fun h=>e (lcmp_zero h)
    have h2:=lcmp_neg p b
    unfold wlt at *
    exact lcmp_trans h (by omega)
def InsW (l:Ww) (a b:Nat):Prop:=∀ p q,p<q→q≤a→q ≠ b→¬ wlt (l.getD q default) (l.getD p default)
def OrdW (l:Ww) (a:Nat):Prop:=∀ p q,p<q→q<a→¬ wlt (l.getD q default) (l.getD p default)
theorem InsW.start {l:Ww} {a:Nat} (h:OrdW l a):InsW l a a:=fun p q hp hq hn=>h p q hp (by omega)
theorem InsW.swap {l:Ww} {a b:Nat} (h:InsW l a (b+1)) (hb:b+1≤a) (ha:a<l.length) (hl:wlt (l.getD (b+1) default) (l.getD b default)):InsW (iwp l b) a b:=fun p q hp hq hn=>by
  rw [iwp_get (by omega),iwp_get (by omega),if_neg hn]
  by_cases eq:q=b+1
  · rw [if_pos eq]
    by_cases ep:p=b
    · rw [if_pos ep];exact wlt_asym hl
    · rw [if_neg ep,if_neg (by omega)];exact h p b (by omega) (by omega) (by omega)
  · rw [if_neg eq]
    by_cases ep:p=b
    · rw [if_pos ep];exact h (b+1) q (by omega) hq eq
    · rw [if_neg ep]
      by_cases ep2:p=b+1
      · rw [if_pos ep2];exact h b q (by omega) hq eq
      · rw [if_neg ep2];exact h p q hp hq eq
theorem InsW.end0 {l:Ww} {a:Nat} (h:InsW l a 0):OrdW l (a+1):=fun p q hp hq=>h p q hp (by omega) (by omega)
theorem InsW.ends {l:Ww} {a b:Nat} (h:InsW l a (b+1)) (hb:b+1≤a) (hl:¬ wlt (l.getD (b+1) default) (l.getD b default)):OrdW l (a+1):=fun p q hp hq=>by
  by_cases e:q=b+1
  · subst e
    by_cases ep:p=b
    · subst ep;exact hl
    · exact fun k=>hl (wlt_le k (h p b (by omega) (by omega) (by omega)))
  · exact h p q hp (by omega) e
theorem OrdW.srt {l:Ww} (h:OrdW l l.length):SrtW l:=List.pairwise_iff_getElem.2 fun p q hp hq hpq=>by
  have:=h p q hpq hq
  simpa [List.getD_eq_getElem?_getD,hp,hq,wlt] using this
def tab4 (n:Nat) (f:Nat→List D):List (List D):=(List.range n).map f
theorem tab4_len {n:Nat} {f:Nat→List D}:(tab4 n f).length=n:=by simp [tab4]
theorem tab4_get {n i:Nat} {f:Nat→List D} (h:i<n):(tab4 n f).getD i []=f i:=by simp [tab4,List.getD,h]
theorem tab4_set {n i:Nat} {f:Nat→List D} {x:List D}:(tab4 n f).set i x=tab4 n fun j=>if j=i then x else f j:=by
  apply List.ext_getElem
  · simp [tab4]
  · intro j h1 h2
    simp only [tab4,List.getElem_set,List.getElem_map,List.getElem_range]
    by_cases e:j=i
    · rw [if_pos e,if_pos e.symm]
    · rw [if_neg e,if_neg (fun h=>e h.symm)]
theorem tab4_ext {n:Nat} {f g:Nat→List D} (h:∀ j,j<n→f j=g j):tab4 n f=tab4 n g:=List.map_congr_left fun j hj=>h j (List.mem_range.1 hj)
theorem tab4_rep {n:Nat} {x:List D}:List.replicate n x=tab4 n fun _=>x:=by
  apply List.ext_getElem<;>simp [tab4]
theorem tab4_tbl {α:Type} [Inhabited α] {f:α→List D} {l:List α}:tbl f l=tab4 l.length fun j=>f (l.getD j default):=by
  apply List.ext_getElem
  · simp [tab4,tbl]
  · intro j h1 h2
    have hj:j<l.length:=by simpa [tbl] using h1
    simp [tab4,tbl,List.getD,hj]
def sp4 (g:Grammar) (w:List Int) (S done:List St) (j:Nat):List D:=if S.getD j default ∈ done then spoD (spotT g w S (S.getD j default)) else [iv .i64 0,iv .i64 0,iv .i64 0,.nl]
theorem sp4_all {g:Grammar} {w:List Int} {S done:List St} (h:∀ s,s ∈ S→s ∈ done):tab4 S.length (sp4 g w S done)=tbl spoD (S.map (spotT g w S)):=by
  rw [tab4_tbl,List.length_map]
  refine tab4_ext fun j hj => ?_
  unfold sp4
  rw [if_pos (h _ (getD_mem' (l:=S) (i:=j) hj)),gdE (l:=S.map (spotT g w S)) (by simpa using hj),List.getElem_map,gdE hj]
theorem sp4_step {g:Grammar} {w:List Int} {S done:List St} (hS:SrtS S) {s:St} (hs:s ∈ S):(tab4 S.length (sp4 g w S done)).set (rkS S s) (spoD (spotT g w S s))=tab4 S.length (sp4 g w S (done++[s])):=by
  obtain ⟨h1,h2⟩:=rk_mem hS hs
  rw [tab4_set]
  refine tab4_ext fun j hj => ?_
  unfold sp4
  by_cases e:j=rkS S s
  · subst e
    rw [if_pos rfl,h2,if_pos (by simp)]
  · have hne:S.getD j default ≠ s:=fun h=>e (by rw [← rk_at hS hj,h])
    rw [if_neg e]
    by_cases hd:S.getD j default ∈ done
    · rw [if_pos hd,if_pos (List.mem_append_left _ hd)]
    · rw [if_neg hd,if_neg (by simp only [List.mem_append,List.mem_singleton];exact fun h=>h.elim hd hne)]
theorem sp4_none {g:Grammar} {w:List Int} {S:List St} {n:Nat}:tab4 n (sp4 g w S [])=List.replicate n [D.v (.int .i64 0),D.v (.int .i64 0),D.v (.int .i64 0),D.nl]:=by
  rw [tab4_rep]
  refine tab4_ext fun j hj => ?_
  unfold sp4
  rw [if_neg (by simp)]
theorem sp4_len {g:Grammar} {w:List Int} {S done:List St} {j:Nat}:(sp4 g w S done j).length=4:=by unfold sp4;split<;>rfl
theorem sp4_drop {g:Grammar} {w:List Int} {S done:List St} {j:Nat}:(sp4 g w S done j).drop 4=[]:=List.drop_of_length_le (by rw [sp4_len];exact Nat.le_refl _)
theorem tab4_take2 {n i:Nat} {f:Nat→List D} {x:List D}:((tab4 n f).set i x).take n=(tab4 n f).set i x:=List.take_of_length_le (by rw [List.length_set,tab4_len];exact Nat.le_refl _)
theorem set_next {l:List (List D)} {b:Nat} {x:List D}:(l.set (b+1) x).getD b []=l.getD b []:=by
  simp [List.getD,List.getElem?_set]
theorem rows_iwp {Q:Ww} {b:Nat}:rows i64s (iwp Q b)=((rows i64s Q).set (b+1) [D.sl 1 (i64s (Q.getD b default))]).set b [D.sl 1 (i64s (Q.getD (b+1) default))]:=by simp [iwp,rows,List.map_set]
def roW (S:List St) (Kq:List (Nat × List St)) (q:Nat) (rt:List Int) (i:Nat) (Sp:List (List Nat)) (c:Nat):Ww:=(Kq++(Sp.take c).map fun es=>(q,wyS rt i es)).map (wayN S)
theorem roW_zero {S:List St} {Kq:List (Nat × List St)} {q i:Nat} {rt:List Int} {Sp:List (List Nat)}:roW S Kq q rt i Sp 0=Kq.map (wayN S):=by simp [roW]
theorem roW_len {S:List St} {Kq:List (Nat × List St)} {q i c:Nat} {rt:List Int} {Sp:List (List Nat)} (h:c≤Sp.length):(roW S Kq q rt i Sp c).length=Kq.length+c:=by simp [roW];omega
theorem roW_succ {S:List St} {Kq:List (Nat × List St)} {q i c:Nat} {rt:List Int} {Sp:List (List Nat)} (h:c<Sp.length):roW S Kq q rt i Sp (c+1)=roW S Kq q rt i Sp c++[wayN S (q,wyS rt i (Sp.getD c default))]:=by
  unfold roW
  rw [take_succ_getD h default];simp
theorem roW_all {S:List St} {Kq:List (Nat × List St)} {q i:Nat} {rt:List Int} {Sp:List (List Nat)}:roW S Kq q rt i Sp Sp.length=(Kq++Sp.map fun es=>(q,wyS rt i es)).map (wayN S):=by
  unfold roW;rw [List.take_length]
end Go.Proofs.Ytcclchnbjpncdaa
