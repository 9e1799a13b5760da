import Derived.Test.YtdliggkohdnipaaGreatNiq
import Derived.Test.YtdliggkohdnipaaGreatProg
import Derived.Shelf.Lays
import Derived.Shelf.Bits.Mul64
set_option linter.unusedVariables false
set_option linter.unusedSimpArgs false
namespace Go.Proofs.YtdliggkohdnipaaGreat.T
open Go
section
variable {l:List Int} {i k p:Nat} {h:ap} {x:aV} {y:aQ}
set_option maxRecDepth 100000
set_option maxHeartbeats 8000000
def mask (l:List Int):List Bool:=(List.range 12).map fun (p:Nat)=>decide ((p:Int) ∈ l)
theorem xS (l:List Int):(mask l).length=12:=by simp [mask]
theorem Wo (h:p < 12):(mask l)[p]? = some (decide ((p:Int) ∈ l)):=by simp [mask,h]
theorem Wp:(mask l).set p true=mask (l ++ [(p:Int)]):=by
 apply List.ext_getElem?
 intro j
 rw [nN]
 simp only [mask,ec,aI,List.length_range]
 by_cases hj:j < 12
 rw [List.getElem?_range hj]
 by_cases h:p=j
 subst h;simp [hj]
 simp [h,Ne.symm h]
 intro e
 exact absurd (by omega:p=j) h
 rw [List.getElem?_eq_none (by simp;omega)]
 split
 rw [if_neg (by omega)];rfl
 rfl
theorem KF {p:Int} (h:0 ≤ p∧p < 12):(mask l)[p.toNat]? = some (decide (p ∈ l)):=by
 have:=Wo (l:=l) (p:=p.toNat) (by omega)
 rwa [show ((p.toNat:Nat):Int)=p by omega] at this
theorem KG {p:Int} (h:0 ≤ p):(mask l).set p.toNat true=mask (l ++ [p]):=by
 rw [Wp,show ((p.toNat:Nat):Int)=p by omega]
theorem G2 {t:List aQ} (hy:t[k]? = some y):mD (t.take (k + 1))=mD (t.take k) ++ if 0 ≤ y.aN then [y.aN] else []:=by
 unfold mD
 rw [fX,hy,iW,List.filter_append]
 by_cases h:0 ≤ y.aN <;> simp [h]
theorem dZ (h:fy x=true):x.ak.length=8∧x.aa.length ≤ 2∧x.Tables.length=x.aa.length∧x.Out.length=8∧x.bI.length=8∧∀ s ∈ x.ak,s=bE ∨ (0 ≤ s.aN∧s.aN ≤ 11∧1 ≤ s.bf∧s.bf ≤ 3):=by
 simp only [fy,bh] at h
 have h1:=AM h.1.1.1
 refine ⟨h1.1,h1.2.2.2.1,h1.2.2.2.2.2,h1.2.1,h1.2.2.1,fun s hs=> ?_⟩
 have h2:=h.1.1.1
 simp only [gP,kL,bh] at h2
 have h3:=eY.1 h2.1.1.2.1 s hs
 simp only [jb,Bool.or_eq_true,bh,decide_eq_true_eq] at h3
 rcases h3 with h3|h3
 exact .inl h3
 exact .inr (by omega)
theorem Oo (h:fy x=true) (hy:x.ak[k]? = some y): -1 ≤ y.aN∧y.aN ≤ 11:=by
 rcases (dZ h).2.2.2.2.2 y (aH hy) with rfl|h1
 exact ⟨by decide,by decide⟩
 omega
abbrev jV (h:ap) (i:Nat) (t:List aQ):List Int:=(h.ai.take i).flatMap gk ++ mD t
theorem BS (hx:h.ai[i]? = some x):(h.ai.take (i + 1)).flatMap gk=jV h i x.ak:=by
 rw [fX,hx]
 simp [jV,gk]
theorem R7 (hx:h.ai[i]? = some x) (hy:x.ak[k]? = some y) (h0:0 ≤ y.aN) (hm:y.aN ∈ jV h i (x.ak.take k)):eu h=false:=by
 have h1:h.ai.flatMap gk=jV h i (x.ak.take k) ++ (y.aN :: (mD (x.ak.drop (k + 1)) ++ (h.ai.drop (i + 1)).flatMap gk)):=by
  have e1:h.ai=h.ai.take i ++ x :: h.ai.drop (i + 1):=by
   have:=(aM.1 hx)
   rw [← this.2, ← Bg,List.take_append_drop]
  have e2:x.ak=x.ak.take k ++ y :: x.ak.drop (k + 1):=by
   have:=(aM.1 hy)
   rw [← this.2, ← Bg,List.take_append_drop]
  have e3:gk x=mD (x.ak.take k) ++ (y.aN :: mD (x.ak.drop (k + 1))):=by
   unfold gk
   conv=>lhs;rw [e2]
   unfold mD
   rw [iW,List.filter_append,List.map_cons,List.filter_cons,if_pos (by simpa using h0)]
  conv=>lhs;rw [e1]
  rw [List.flatMap_append,List.flatMap_cons,e3]
  simp [jV]
 have h2:¬ (h.ai.flatMap gk).Nodup:=by
  rw [h1,List.nodup_append]
  rintro ⟨_,_,h3⟩
  exact h3 _ hm _ uy rfl
 unfold eu
 rw [decide_eq_false h2,jt]
theorem G3 (hy:x.ak[k]? = some y) (h0:0 ≤ y.aN) (hn:(jV h i (x.ak.take k)).Nodup) (hm:¬ y.aN ∈ jV h i (x.ak.take k)):(jV h i (x.ak.take (k + 1))).Nodup∧jV h i (x.ak.take (k + 1))=jV h i (x.ak.take k) ++ [y.aN]:=by
 have e:jV h i (x.ak.take (k + 1))=jV h i (x.ak.take k) ++ [y.aN]:=by
  unfold jV
  rw [G2 hy,if_pos h0,rX]
 refine ⟨?_,e⟩
 rw [e,List.nodup_append]
 exact ⟨hn,by simp,fun a ha b hb=>by rw [o5.1 hb];rintro rfl;exact hm ha⟩
theorem uP (hy:x.ak[k]? = some y) (h0:¬ 0 ≤ y.aN):jV h i (x.ak.take (k + 1))=jV h i (x.ak.take k):=by
 unfold jV
 rw [G2 hy,if_neg h0,List.append_nil]
def jZ (h:ap):Bool:=tg h.au 12 && jX h.ai.length 1 3 && ni h.Buffer && ni h.aD
theorem qK (h1:jZ h=false):eu h=false:=by unfold jZ at h1;unfold eu;rw [h1];simp
theorem KH (h1:h.ai.all fy=false):eu h=false:=by unfold eu;rw [h1];simp
theorem R8 (h1:jZ h=true) (h2:h.ai.all fy=true) (hn:((h.ai.take i).flatMap gk).Nodup) (hi:h.ai.length ≤ i):eu h=true:=by
 unfold jZ at h1
 unfold eu
 rw [h1,h2]
 rw [fu hi] at hn
 simp [hn]
theorem lA (x:ap):aF Tryz.prog 329 [A (aq x)] (RV (.bool (eu x))):=by
 refine aF.w 72 Tryz.func329 fun w g0 hM=> ?_
 have eW:=hM.1.2.1.map
 refine ah (BJ _ _).k ?_
 refine aB ?_ ?_ <;> intro Fu
 ·exact ay (by rw [qK (by rw [dG];intro e;simp only [jZ,bh,decide_eq_true_eq] at e;(simp_all;done))])
 ·refine len ?_
  refine ah (aE _ _ _).k ?_
  refine aB ?_ ?_ <;> intro hg11
  ·exact ay (by rw [qK (by rw [dG];intro e;simp only [jZ,bh,decide_eq_true_eq] at e;omega)])
  ·refine ah (wA _).k ?_
   refine aB ?_ ?_ <;> intro hg17
   ·exact ay (by rw [qK (by rw [dG];intro e;simp only [jZ,bh,decide_eq_true_eq] at e;(simp_all;done))])
   ·refine ah (wA _).k ?_
    refine aB ?_ ?_ <;> intro hb
    ·exact ay (by rw [qK (by rw [dG];intro e;simp only [jZ,bh,decide_eq_true_eq] at e;(simp_all;done))])
    ·have hpre:jZ x=true:=(by unfold jZ;simp only [*,lE,jr];exact decide_eq_true (by omega))
     refine Tv 12 ?_
     refine ck [1,3] [3] [3] (fun (i:Nat)=>[.set 4 (I i)]) (fun (i:Nat)=>[(3,⟨false,[.own (.sl 1 ((mask ((x.ai.take i).flatMap gk)).map bO))]⟩)]) (fun (i:Nat)=>(i ≤ x.ai.length)∧((x.ai.take i).all fy=true∧((x.ai.take i).flatMap gk).Nodup)) (fun (i:Nat)=>x.ai.length - i) (0) (⟨bG _,rfl,List.nodup_nil⟩) ?_
     refine ⟨(hda (by repeat' first|exact rfl|constructor)),fun i hyp N1 bq=> ?_⟩
     have hyp:(i ≤ x.ai.length)∧((x.ai.take i).all fy=true∧((x.ai.take i).flatMap gk).Nodup):=hyp
     have ha:=lI hyp.2.1
     refine len ?_
     refine aB ?_ ?_ <;> intro iz
     ·obtain ⟨u,hu⟩:∃ u,x.ai[i]? = some u:=⟨_,bg (by omega)⟩
      refine dM hu ?_
      skip
      refine ah (Mc _).k ?_
      refine aB ?_ ?_ <;> intro tr
      ·refine bq _ _ _ ?_
       exact ay (by rw [KH (ha.1 _ hu ‹_›)])
      ·have hmo:fy u=true:=by assumption
       have R9:=dZ hmo
       refine ck [1,3,4] [3] [3] (fun (k:Nat)=>[.set 5 (I k)]) (fun (k:Nat)=>[(3,⟨false,[.own (.sl 1 ((mask (jV x i (u.ak.take k))).map bO))]⟩)]) (fun (k:Nat)=>k ≤ u.ak.length∧(jV x i (u.ak.take k)).Nodup) (fun (k:Nat)=>u.ak.length - k) (0) (⟨bG _,by simpa [jV,mD] using hyp.2.2⟩) ?_
       refine ⟨(hda (by repeat' first|exact rfl|constructor|(refine dL ?_;simp [jV,mD];done))),fun k fq N2 oL=> ?_⟩
       have fq:k ≤ u.ak.length∧(jV x i (u.ak.take k)).Nodup:=fq
       have Es:=hyp.1
       have On:=fq.1
       refine aB ?_ ?_ <;> intro AJ
       ·obtain ⟨s,hs⟩:∃ s,u.ak[k]? = some s:=⟨_,bg (by omega)⟩
        have hsr:=Oo hmo hs
        refine dM hu ?_
        skip
        skip
        refine dM hs ?_
        skip
        skip
        refine aB ?_ ?_ <;> intro oe
        ·have hmg:=KF (l:=jV x i (u.ak.take k)) (p:=s.aN) (by omega)
         refine bl ?_ (by rw [aI,xS];omega)
         refine aL ‹_› ?_
         refine aB ?_ ?_ <;> intro D0
         ·refine oL _ _ _ ?_
          refine bq _ _ _ ?_
          exact ay (by rw [R7 hu hs (by omega) ‹_›])
         ·refine aB ?_ ?_ <;> intro Pz
          ·refine bl ?_ (by rw [aI,xS];omega)
           refine aL ‹_› ?_
           refine cg ?_
           refine oL _ _ _ ?_
           refine hY (k + 1) (by exact ⟨by omega,(G3 hs (by omega) fq.2 ‹_›).1⟩) (by repeat' first|exact rfl|constructor|(refine dL ?_;rw [(G3 hs (by omega) fq.2 ‹_›).2, ← KG (by omega),bL];done))
          ·refine cg ?_
           refine oL _ _ _ ?_
           refine hY (k + 1) (by exact ⟨by omega,(G3 hs (by omega) fq.2 ‹_›).1⟩) (by repeat' first|exact rfl|constructor|(refine dL ?_;rw [uP hs (by omega)];done))
        ·refine aB ?_ ?_ <;> intro TD
         ·refine bl ?_ (by rw [aI,xS];omega)
          refine sn (fun z8 hz8 qz8 lz8=> ?_)
          refine cg ?_
          refine oL _ _ _ ?_
          refine hY (k + 1) (by exact ⟨by omega,by rw [uP hs (by omega)];exact fq.2⟩) (by repeat' first|exact rfl|constructor|(refine dL ?_;(exfalso;omega)))
         ·refine cg ?_
          refine oL _ _ _ ?_
          refine hY (k + 1) (by exact ⟨by omega,by rw [uP hs (by omega)];exact fq.2⟩) (by repeat' first|exact rfl|constructor|(refine dL ?_;rw [uP hs (by omega)];done))
       ·refine oL _ _ _ ?_
        refine cg ?_
        refine bq _ _ _ ?_
        refine hY (i + 1) (⟨by omega,jD hyp.2.1 hu hmo,by rw [BS hu];rw [show u.ak.take k=u.ak from fu (by omega)] at fq;exact fq.2⟩) (by repeat' first|exact rfl|constructor|(refine dL ?_;rw [BS hu,show u.ak.take k=u.ak from fu (by omega)];done))
     ·refine bq _ _ _ ?_
      exact ay (by rw [R8 hpre (ha.2 (by omega)) hyp.2.2 (by omega)])
theorem gX (x:ap):aF Tryz.prog 40 [A (aq x)] (RV (.bool (eu x))):=by
 refine aF.w 63 Tryz.func40 fun w g0 hM=> ?_
 have eW:=hM.1.2.1.map
 refine ah (BK _ _).k ?_
 refine aB ?_ ?_ <;> intro Fu
 ·exact ay (by rw [qK (by rw [dG];intro e;simp only [jZ,bh,decide_eq_true_eq] at e;(simp_all;done))])
 ·refine len ?_
  refine ah (aU _ _ _).k ?_
  refine aB ?_ ?_ <;> intro hg11
  ·exact ay (by rw [qK (by rw [dG];intro e;simp only [jZ,bh,decide_eq_true_eq] at e;omega)])
  ·refine ah (wB _).k ?_
   refine aB ?_ ?_ <;> intro hg17
   ·exact ay (by rw [qK (by rw [dG];intro e;simp only [jZ,bh,decide_eq_true_eq] at e;(simp_all;done))])
   ·refine ah (wB _).k ?_
    refine aB ?_ ?_ <;> intro hb
    ·exact ay (by rw [qK (by rw [dG];intro e;simp only [jZ,bh,decide_eq_true_eq] at e;(simp_all;done))])
    ·have hpre:jZ x=true:=(by unfold jZ;simp only [*,lE,jr];exact decide_eq_true (by omega))
     refine Tv 12 ?_
     refine len ?_
     refine ck [3,33,34] [3] [3] (fun (i:Nat)=>[.set 35 (I i)]) (fun (i:Nat)=>[(3,⟨false,[.own (.sl 1 ((mask ((x.ai.take i).flatMap gk)).map bO))]⟩)]) (fun (i:Nat)=>(i ≤ x.ai.length)∧((x.ai.take i).all fy=true∧((x.ai.take i).flatMap gk).Nodup)) (fun (i:Nat)=>x.ai.length - i) (0) (⟨bG _,rfl,List.nodup_nil⟩) ?_
     refine ⟨(hda (by repeat' first|exact rfl|constructor)),fun i hyp N1 bq=> ?_⟩
     have hyp:(i ≤ x.ai.length)∧((x.ai.take i).all fy=true∧((x.ai.take i).flatMap gk).Nodup):=hyp
     have ha:=lI hyp.2.1
     refine aB ?_ ?_ <;> intro iz
     ·obtain ⟨u,hu⟩:∃ u,x.ai[i]? = some u:=⟨_,bg (by omega)⟩
      refine dM hu ?_
      skip
      refine ah (Md _).k ?_
      refine aB ?_ ?_ <;> intro tr
      ·refine bq _ _ _ ?_
       exact ay (by rw [KH (ha.1 _ hu ‹_›)])
      ·have hmo:fy u=true:=by assumption
       have R9:=dZ hmo
       refine len ?_
       refine ck [3,33,34,35,43,44] [3] [3] (fun (k:Nat)=>[.set 45 (I k)]) (fun (k:Nat)=>[(3,⟨false,[.own (.sl 1 ((mask (jV x i (u.ak.take k))).map bO))]⟩)]) (fun (k:Nat)=>k ≤ u.ak.length∧(jV x i (u.ak.take k)).Nodup) (fun (k:Nat)=>u.ak.length - k) (0) (⟨bG _,by simpa [jV,mD] using hyp.2.2⟩) ?_
       refine ⟨(hda (by repeat' first|exact rfl|constructor|(refine dL ?_;simp [jV,mD];done))),fun k fq N2 oL=> ?_⟩
       have fq:k ≤ u.ak.length∧(jV x i (u.ak.take k)).Nodup:=fq
       have Es:=hyp.1
       have On:=fq.1
       refine aB ?_ ?_ <;> intro AJ
       ·obtain ⟨s,hs⟩:∃ s,u.ak[k]? = some s:=⟨_,bg (by omega)⟩
        have hsr:=Oo hmo hs
        refine dM hs ?_
        skip
        refine aB ?_ ?_ <;> intro D0
        ·refine cg ?_
         refine oL _ _ _ ?_
         refine hY (k + 1) (by exact ⟨by omega,by rw [uP hs (by omega)];exact fq.2⟩) (by repeat' first|exact rfl|constructor|(refine dL ?_;rw [uP hs (by omega)];done))
        ·have hmg:=KF (l:=jV x i (u.ak.take k)) (p:=s.aN) (by omega)
         refine bl ?_ (by rw [aI,xS];omega)
         refine aL ‹_› ?_
         refine aB ?_ ?_ <;> intro Pz
         ·refine oL _ _ _ ?_
          refine bq _ _ _ ?_
          exact ay (by rw [R7 hu hs (by omega) ‹_›])
         ·refine bl ?_ (by rw [aI,xS];omega)
          refine aL ‹_› ?_
          refine cg ?_
          refine oL _ _ _ ?_
          refine hY (k + 1) (by exact ⟨by omega,(G3 hs (by omega) fq.2 ‹_›).1⟩) (by repeat' first|exact rfl|constructor|(refine dL ?_;rw [(G3 hs (by omega) fq.2 ‹_›).2, ← KG (by omega),bL];done))
       ·refine oL _ _ _ ?_
        refine cg ?_
        refine bq _ _ _ ?_
        refine hY (i + 1) (⟨by omega,jD hyp.2.1 hu hmo,by rw [BS hu];rw [show u.ak.take k=u.ak from fu (by omega)] at fq;exact fq.2⟩) (by repeat' first|exact rfl|constructor|(refine dL ?_;rw [BS hu,show u.ak.take k=u.ak from fu (by omega)];done))
     ·refine bq _ _ _ ?_
      exact ay (by rw [R8 hpre (ha.2 (by omega)) hyp.2.2 (by omega)])
theorem lY (x:cE) [Q (dR x)]:aF Tryz.prog 322 [A (ia x)] (RG [.a (ia x)]):=by
 refine aF.w 12 Tryz.func322 fun w g0 _=> ?_
 refine gp [3,7,9] [3,7] [1] (.quiet 1 0 (.quiet 2 0 (.quiet 5 1 (.quiet 6 1 (.fork (.alt 0 (.fork (.alt 3 (.fa 4 (.fa 7 (.quiet 8 0 (.fa 9 .done)))) (.alt 4 (.fa 3 (.fa 7 (.quiet 8 0 (.fa 9 .done)))) .stop))) (.alt 4 (.fa 0 (.fa 3 (.fa 7 (.quiet 8 0 (.fa 9 .done))))) .stop))))))) ?_
 repeat' first|exact True.intro|refine And.intro ?_ ?_|(intro _ _)|refine cD ?_
 all_goals exact rfl
theorem k_ (x:cE) [Q (dR x)]:aF Tryz.prog 184 [A (ia x)] (RG [.a (ia x)]):=by
 refine aF.w 11 Tryz.func184 fun w g0 _=> ?_
 refine gp [3,8] [3] [1] (.quiet 1 0 (.quiet 2 0 (.quiet 4 1 (.quiet 5 1 (.fa 0 (.fa 3 (.fa 6 (.quiet 7 0 (.fa 8 .done))))))))) ?_
 repeat' first|exact True.intro|refine And.intro ?_ ?_|(intro _ _)|refine cD ?_|refine bu (kn _).k ?_
 exact rfl
end
set_option maxRecDepth 100000
set_option maxHeartbeats 8000000
theorem Aa (x:aV) [Q (bt x)]:aF Tryz.prog 205 [A (vv x)] (RG [.a (vv x)]):=by
 refine aF.w 48 Tryz.func205 fun w g0 hM=> ?_
 have eW:=hM.1.2.2.2.2.2.2.2.1.map
 refine cD ?_
 refine bu (lV _).k ?_
 refine cD ?_
 refine bu (mJ _).k ?_
 refine cD ?_
 refine ck [1,2,3] [3] [3] (fun (i:Nat)=>[.set 4 (I i)]) (fun (i:Nat)=>[(3,⟨false,[.own (.sl 2 ((x.Tables.take i).map cz))]⟩)]) (fun (i:Nat)=>i ≤ x.Tables.length) (fun (i:Nat)=>x.Tables.length - i) (0) (bG _) ?_
 refine ⟨hda,fun i hyp N1 bq=> ?_⟩
 have hyp:i ≤ x.Tables.length:=hyp
 refine len ?_
 refine aB ?_ ?_ <;> intro hb
 ·refine s6 (fun y40 hy40 qy40 ly40=> ?_)
  skip
  refine an (lY _).k ?_
  refine lH ?_
  refine cg ?_
  refine bq _ _ _ ?_
  refine hY (i + 1) (by omega)
 ·refine bq _ _ _ ?_
  exact (by rw [fu (by omega)];rfl)
theorem xT (x:aV) [Q (bt x)]:aF Tryz.prog 183 [A (vv x)] (RG [.a (vv x)]):=by
 refine aF.w 44 Tryz.func183 fun w g0 hM=> ?_
 have eW:=hM.1.2.2.2.2.2.2.2.1.map
 refine bu (kn _).k ?_
 refine bu (ko _).k ?_
 refine cD ?_
 refine bu (gq _).k ?_
 refine bu (iC _).k ?_
 refine len ?_
 refine ck [1,2,3,29,30] [3] [3] (fun (i:Nat)=>[.set 31 (I i)]) (fun (i:Nat)=>[(3,⟨false,[.own (.sl 2 ((x.Tables.take i).map cz))]⟩)]) (fun (i:Nat)=>i ≤ x.Tables.length) (fun (i:Nat)=>x.Tables.length - i) (0) (bG _) ?_
 refine ⟨hda,fun i hyp N1 bq=> ?_⟩
 have hyp:i ≤ x.Tables.length:=hyp
 refine aB ?_ ?_ <;> intro hb
 ·refine s6 (fun y33 hy33 qy33 ly33=> ?_)
  skip
  refine an (k_ _).k ?_
  refine lH ?_
  refine cg ?_
  refine bq _ _ _ ?_
  refine hY (i + 1) (by omega)
 ·refine bq _ _ _ ?_
  exact (by rw [fu (by omega)];rfl)
theorem cF (h:ap) [Q (aj h)]:aF Tryz.prog 213 [A (aq h)] (RG [.a (aq h)]):=by
 refine aF.w 36 Tryz.func213 fun w g0 hM=> ?_
 have eW:=hM.1.2.1.map
 refine xP [6,10,13] [6,10] [1] (.quiet 0 0 (.quiet 1 0 (.quiet 4 0 (.quiet 5 0 (.quiet 8 1 (.quiet 9 1 (.fork (.alt 2 (.fork (.alt 3 (.fork (.alt 6 (.fork (.alt 7 (.fork (.alt 10 (.fork (.alt 11 (.fa 12 (.fa 13 .done)) (.alt 12 (.fa 11 (.fa 13 .done)) .stop))) (.alt 12 (.fa 10 (.fa 11 (.fa 13 .done))) .stop))) (.alt 12 (.fa 7 (.fa 10 (.fa 11 (.fa 13 .done)))) .stop))) (.alt 7 (.fork (.alt 6 (.fork (.alt 10 (.fork (.alt 11 (.fa 12 (.fa 13 .done)) (.alt 12 (.fa 11 (.fa 13 .done)) .stop))) (.alt 12 (.fa 10 (.fa 11 (.fa 13 .done))) .stop))) (.alt 12 (.fa 6 (.fa 10 (.fa 11 (.fa 13 .done)))) .stop))) (.alt 12 (.fork (.alt 6 (.fa 7 (.fa 10 (.fa 11 (.fa 13 .done)))) (.alt 7 (.fa 6 (.fa 10 (.fa 11 (.fa 13 .done)))) .stop))) .stop)))) (.alt 7 (.fork (.alt 3 (.fork (.alt 6 (.fork (.alt 10 (.fork (.alt 11 (.fa 12 (.fa 13 .done)) (.alt 12 (.fa 11 (.fa 13 .done)) .stop))) (.alt 12 (.fa 10 (.fa 11 (.fa 13 .done))) .stop))) (.alt 12 (.fa 6 (.fa 10 (.fa 11 (.fa 13 .done)))) .stop))) (.alt 12 (.fa 3 (.fa 6 (.fa 10 (.fa 11 (.fa 13 .done))))) .stop))) (.alt 12 (.fork (.alt 3 (.fork (.alt 6 (.fa 7 (.fa 10 (.fa 11 (.fa 13 .done)))) (.alt 7 (.fa 6 (.fa 10 (.fa 11 (.fa 13 .done)))) .stop))) (.alt 7 (.fa 3 (.fa 6 (.fa 10 (.fa 11 (.fa 13 .done))))) .stop))) .stop)))) (.alt 3 (.fork (.alt 2 (.fork (.alt 6 (.fork (.alt 7 (.fork (.alt 10 (.fork (.alt 11 (.fa 12 (.fa 13 .done)) (.alt 12 (.fa 11 (.fa 13 .done)) .stop))) (.alt 12 (.fa 10 (.fa 11 (.fa 13 .done))) .stop))) (.alt 12 (.fa 7 (.fa 10 (.fa 11 (.fa 13 .done)))) .stop))) (.alt 7 (.fork (.alt 6 (.fork (.alt 10 (.fork (.alt 11 (.fa 12 (.fa 13 .done)) (.alt 12 (.fa 11 (.fa 13 .done)) .stop))) (.alt 12 (.fa 10 (.fa 11 (.fa 13 .done))) .stop))) (.alt 12 (.fa 6 (.fa 10 (.fa 11 (.fa 13 .done)))) .stop))) (.alt 12 (.fork (.alt 6 (.fa 7 (.fa 10 (.fa 11 (.fa 13 .done)))) (.alt 7 (.fa 6 (.fa 10 (.fa 11 (.fa 13 .done)))) .stop))) .stop)))) (.alt 7 (.fork (.alt 2 (.fork (.alt 6 (.fork (.alt 10 (.fork (.alt 11 (.fa 12 (.fa 13 .done)) (.alt 12 (.fa 11 (.fa 13 .done)) .stop))) (.alt 12 (.fa 10 (.fa 11 (.fa 13 .done))) .stop))) (.alt 12 (.fa 6 (.fa 10 (.fa 11 (.fa 13 .done)))) .stop))) (.alt 12 (.fa 2 (.fa 6 (.fa 10 (.fa 11 (.fa 13 .done))))) .stop))) (.alt 12 (.fork (.alt 2 (.fork (.alt 6 (.fa 7 (.fa 10 (.fa 11 (.fa 13 .done)))) (.alt 7 (.fa 6 (.fa 10 (.fa 11 (.fa 13 .done)))) .stop))) (.alt 7 (.fa 2 (.fa 6 (.fa 10 (.fa 11 (.fa 13 .done))))) .stop))) .stop)))) (.alt 7 (.fork (.alt 2 (.fork (.alt 3 (.fork (.alt 6 (.fork (.alt 10 (.fork (.alt 11 (.fa 12 (.fa 13 .done)) (.alt 12 (.fa 11 (.fa 13 .done)) .stop))) (.alt 12 (.fa 10 (.fa 11 (.fa 13 .done))) .stop))) (.alt 12 (.fa 6 (.fa 10 (.fa 11 (.fa 13 .done)))) .stop))) (.alt 12 (.fa 3 (.fa 6 (.fa 10 (.fa 11 (.fa 13 .done))))) .stop))) (.alt 3 (.fork (.alt 2 (.fork (.alt 6 (.fork (.alt 10 (.fork (.alt 11 (.fa 12 (.fa 13 .done)) (.alt 12 (.fa 11 (.fa 13 .done)) .stop))) (.alt 12 (.fa 10 (.fa 11 (.fa 13 .done))) .stop))) (.alt 12 (.fa 6 (.fa 10 (.fa 11 (.fa 13 .done)))) .stop))) (.alt 12 (.fa 2 (.fa 6 (.fa 10 (.fa 11 (.fa 13 .done))))) .stop))) (.alt 12 (.fork (.alt 2 (.fa 3 (.fa 6 (.fa 10 (.fa 11 (.fa 13 .done))))) (.alt 3 (.fa 2 (.fa 6 (.fa 10 (.fa 11 (.fa 13 .done))))) .stop))) .stop)))) (.alt 12 (.fork (.alt 2 (.fork (.alt 3 (.fork (.alt 6 (.fa 7 (.fa 10 (.fa 11 (.fa 13 .done)))) (.alt 7 (.fa 6 (.fa 10 (.fa 11 (.fa 13 .done)))) .stop))) (.alt 7 (.fa 3 (.fa 6 (.fa 10 (.fa 11 (.fa 13 .done))))) .stop))) (.alt 3 (.fork (.alt 2 (.fork (.alt 6 (.fa 7 (.fa 10 (.fa 11 (.fa 13 .done)))) (.alt 7 (.fa 6 (.fa 10 (.fa 11 (.fa 13 .done)))) .stop))) (.alt 7 (.fa 2 (.fa 6 (.fa 10 (.fa 11 (.fa 13 .done))))) .stop))) (.alt 7 (.fork (.alt 2 (.fa 3 (.fa 6 (.fa 10 (.fa 11 (.fa 13 .done))))) (.alt 3 (.fa 2 (.fa 6 (.fa 10 (.fa 11 (.fa 13 .done))))) .stop))) .stop)))) .stop))))))))))) [1,2] [] [3] [.set 3 (.one (.ptr ⟨3,[],0⟩))] [(3,⟨true,[.own (.sl 1 (h.au.map aP)), .own (.sl 9 ([])), .own (.sl 4 (h.Buffer.map aC)), .own (.sl 4 (h.aD.map aC))]⟩)] ?_
 refine ⟨?_, ?_⟩
 ·repeat' first|exact True.intro|refine And.intro ?_ ?_|(intro _ _)|refine bu (lV _).k ?_|refine cD ?_|exact rfl
 refine ck [1,2,3] [] [3] (fun (i:Nat)=>[.set 4 (I i)]) (fun (i:Nat)=>[(3,⟨true,[.own (.sl 1 (h.au.map aP)), .own (.sl 9 ((h.ai.take i).map bA)), .own (.sl 4 (h.Buffer.map aC)), .own (.sl 4 (h.aD.map aC))]⟩)]) (fun (i:Nat)=>i ≤ h.ai.length) (fun (i:Nat)=>h.ai.length - i) (0) (bG _) ?_
 refine ⟨hda,fun i hyp N1 bq=> ?_⟩
 have hyp:i ≤ h.ai.length:=hyp
 refine len ?_
 refine aB ?_ ?_ <;> intro hb
 ·refine cI [9,11] [(0,0),(1,0),(2,0),(3,0),(4,0),(5,0),(6,0),(7,1),(8,1),(9,1),(10,0),(11,1)] ?_
  refine s6 (fun y29 hy29 qy29 ly29=> ?_)
  skip
  refine an (Aa _).k ?_
  refine lH ?_
  refine cg ?_
  refine bq _ _ _ ?_
  refine hY (i + 1) (by omega)
 ·refine bq _ _ _ ?_
  exact (by rw [fu (by omega)];rfl)
theorem aY (h:ap) [Q (aj h)]:aF Tryz.prog 92 [A (aq h)] (RG [.a (aq h)]):=by
 refine aF.w 34 Tryz.func92 fun w g0 hM=> ?_
 have eW:=hM.1.2.1.map
 refine xP [6,10,13] [6,10] [1] (.quiet 0 0 (.quiet 1 0 (.quiet 4 0 (.quiet 5 0 (.quiet 8 1 (.quiet 9 1 (.fork (.alt 2 (.fork (.alt 3 (.fork (.alt 6 (.fork (.alt 7 (.fork (.alt 10 (.fork (.alt 11 (.fa 12 (.fa 13 .done)) (.alt 12 (.fa 11 (.fa 13 .done)) .stop))) (.alt 12 (.fa 10 (.fa 11 (.fa 13 .done))) .stop))) (.alt 12 (.fa 7 (.fa 10 (.fa 11 (.fa 13 .done)))) .stop))) (.alt 7 (.fork (.alt 6 (.fork (.alt 10 (.fork (.alt 11 (.fa 12 (.fa 13 .done)) (.alt 12 (.fa 11 (.fa 13 .done)) .stop))) (.alt 12 (.fa 10 (.fa 11 (.fa 13 .done))) .stop))) (.alt 12 (.fa 6 (.fa 10 (.fa 11 (.fa 13 .done)))) .stop))) (.alt 12 (.fork (.alt 6 (.fa 7 (.fa 10 (.fa 11 (.fa 13 .done)))) (.alt 7 (.fa 6 (.fa 10 (.fa 11 (.fa 13 .done)))) .stop))) .stop)))) (.alt 7 (.fork (.alt 3 (.fork (.alt 6 (.fork (.alt 10 (.fork (.alt 11 (.fa 12 (.fa 13 .done)) (.alt 12 (.fa 11 (.fa 13 .done)) .stop))) (.alt 12 (.fa 10 (.fa 11 (.fa 13 .done))) .stop))) (.alt 12 (.fa 6 (.fa 10 (.fa 11 (.fa 13 .done)))) .stop))) (.alt 12 (.fa 3 (.fa 6 (.fa 10 (.fa 11 (.fa 13 .done))))) .stop))) (.alt 12 (.fork (.alt 3 (.fork (.alt 6 (.fa 7 (.fa 10 (.fa 11 (.fa 13 .done)))) (.alt 7 (.fa 6 (.fa 10 (.fa 11 (.fa 13 .done)))) .stop))) (.alt 7 (.fa 3 (.fa 6 (.fa 10 (.fa 11 (.fa 13 .done))))) .stop))) .stop)))) (.alt 3 (.fork (.alt 2 (.fork (.alt 6 (.fork (.alt 7 (.fork (.alt 10 (.fork (.alt 11 (.fa 12 (.fa 13 .done)) (.alt 12 (.fa 11 (.fa 13 .done)) .stop))) (.alt 12 (.fa 10 (.fa 11 (.fa 13 .done))) .stop))) (.alt 12 (.fa 7 (.fa 10 (.fa 11 (.fa 13 .done)))) .stop))) (.alt 7 (.fork (.alt 6 (.fork (.alt 10 (.fork (.alt 11 (.fa 12 (.fa 13 .done)) (.alt 12 (.fa 11 (.fa 13 .done)) .stop))) (.alt 12 (.fa 10 (.fa 11 (.fa 13 .done))) .stop))) (.alt 12 (.fa 6 (.fa 10 (.fa 11 (.fa 13 .done)))) .stop))) (.alt 12 (.fork (.alt 6 (.fa 7 (.fa 10 (.fa 11 (.fa 13 .done)))) (.alt 7 (.fa 6 (.fa 10 (.fa 11 (.fa 13 .done)))) .stop))) .stop)))) (.alt 7 (.fork (.alt 2 (.fork (.alt 6 (.fork (.alt 10 (.fork (.alt 11 (.fa 12 (.fa 13 .done)) (.alt 12 (.fa 11 (.fa 13 .done)) .stop))) (.alt 12 (.fa 10 (.fa 11 (.fa 13 .done))) .stop))) (.alt 12 (.fa 6 (.fa 10 (.fa 11 (.fa 13 .done)))) .stop))) (.alt 12 (.fa 2 (.fa 6 (.fa 10 (.fa 11 (.fa 13 .done))))) .stop))) (.alt 12 (.fork (.alt 2 (.fork (.alt 6 (.fa 7 (.fa 10 (.fa 11 (.fa 13 .done)))) (.alt 7 (.fa 6 (.fa 10 (.fa 11 (.fa 13 .done)))) .stop))) (.alt 7 (.fa 2 (.fa 6 (.fa 10 (.fa 11 (.fa 13 .done))))) .stop))) .stop)))) (.alt 7 (.fork (.alt 2 (.fork (.alt 3 (.fork (.alt 6 (.fork (.alt 10 (.fork (.alt 11 (.fa 12 (.fa 13 .done)) (.alt 12 (.fa 11 (.fa 13 .done)) .stop))) (.alt 12 (.fa 10 (.fa 11 (.fa 13 .done))) .stop))) (.alt 12 (.fa 6 (.fa 10 (.fa 11 (.fa 13 .done)))) .stop))) (.alt 12 (.fa 3 (.fa 6 (.fa 10 (.fa 11 (.fa 13 .done))))) .stop))) (.alt 3 (.fork (.alt 2 (.fork (.alt 6 (.fork (.alt 10 (.fork (.alt 11 (.fa 12 (.fa 13 .done)) (.alt 12 (.fa 11 (.fa 13 .done)) .stop))) (.alt 12 (.fa 10 (.fa 11 (.fa 13 .done))) .stop))) (.alt 12 (.fa 6 (.fa 10 (.fa 11 (.fa 13 .done)))) .stop))) (.alt 12 (.fa 2 (.fa 6 (.fa 10 (.fa 11 (.fa 13 .done))))) .stop))) (.alt 12 (.fork (.alt 2 (.fa 3 (.fa 6 (.fa 10 (.fa 11 (.fa 13 .done))))) (.alt 3 (.fa 2 (.fa 6 (.fa 10 (.fa 11 (.fa 13 .done))))) .stop))) .stop)))) (.alt 12 (.fork (.alt 2 (.fork (.alt 3 (.fork (.alt 6 (.fa 7 (.fa 10 (.fa 11 (.fa 13 .done)))) (.alt 7 (.fa 6 (.fa 10 (.fa 11 (.fa 13 .done)))) .stop))) (.alt 7 (.fa 3 (.fa 6 (.fa 10 (.fa 11 (.fa 13 .done))))) .stop))) (.alt 3 (.fork (.alt 2 (.fork (.alt 6 (.fa 7 (.fa 10 (.fa 11 (.fa 13 .done)))) (.alt 7 (.fa 6 (.fa 10 (.fa 11 (.fa 13 .done)))) .stop))) (.alt 7 (.fa 2 (.fa 6 (.fa 10 (.fa 11 (.fa 13 .done))))) .stop))) (.alt 7 (.fork (.alt 2 (.fa 3 (.fa 6 (.fa 10 (.fa 11 (.fa 13 .done))))) (.alt 3 (.fa 2 (.fa 6 (.fa 10 (.fa 11 (.fa 13 .done))))) .stop))) .stop)))) .stop))))))))))) [1,2] [] [3] [.set 3 (.one (.ptr ⟨3,[],0⟩))] [(3,⟨true,[.own (.sl 1 (h.au.map aP)), .own (.sl 9 ([])), .own (.sl 4 (h.Buffer.map aC)), .own (.sl 4 (h.aD.map aC))]⟩)] ?_
 refine ⟨?_, ?_⟩
 ·repeat' first|exact True.intro|refine And.intro ?_ ?_|(intro _ _)|refine bu (ko _).k ?_|refine cD ?_|exact rfl
 refine len ?_
 refine ck [2,3,19,20] [] [3] (fun (i:Nat)=>[.set 21 (I i)]) (fun (i:Nat)=>[(3,⟨true,[.own (.sl 1 (h.au.map aP)), .own (.sl 9 ((h.ai.take i).map bA)), .own (.sl 4 (h.Buffer.map aC)), .own (.sl 4 (h.aD.map aC))]⟩)]) (fun (i:Nat)=>i ≤ h.ai.length) (fun (i:Nat)=>h.ai.length - i) (0) (bG _) ?_
 refine ⟨hda,fun i hyp N1 bq=> ?_⟩
 have hyp:i ≤ h.ai.length:=hyp
 refine aB ?_ ?_ <;> intro hb
 ·refine s6 (fun y23 hy23 qy23 ly23=> ?_)
  skip
  refine cI [5,7] [(0,0),(1,0),(2,0),(3,1),(4,1),(5,1),(6,0),(7,1)] ?_
  refine an (xT _).k ?_
  refine lH ?_
  refine cg ?_
  refine bq _ _ _ ?_
  refine hY (i + 1) (by omega)
 ·refine bq _ _ _ ?_
  exact (by rw [fu (by omega)];rfl)
instance wlMon (xs:List aV):WL (xs.map bA):=⟨fun d hd=>by obtain ⟨x,_,rfl⟩:=j7.1 hd;exact inferInstanceAs (WR (bA x))⟩
end Go.Proofs.YtdliggkohdnipaaGreat.T
namespace Go.Proofs.YtdliggkohdnipaaGreat
open Go.Shelf
set_option maxRecDepth 100000
def Oq:Go.Shelf.Ren:=⟨fun|212=>306|263=>418|264=>419|n=>n,fun|46=>249|51=>331|146=>332|53=>334|148=>335|n=>n,fun|n=>n⟩
theorem Y1:Go.Proofs.Lays.n212 Tryz.prog Oq:={
 mixed:=by kernel_rfl
 f212:=Tryz.func306.trans (congrArg some (by kernel_rfl))
 f263:=Tryz.func418.trans (congrArg some (by kernel_rfl))
 f264:=Tryz.func419.trans (congrArg some (by kernel_rfl))
 t46:=Tryz.underlying249
 a46:=Tryz.isAgg249
 z46:=Tryz.sizeOf249
 v46:=Tryz.zeroValue249
 t51:=Tryz.underlying331
 a51:=Tryz.isAgg331
 z51:=Tryz.sizeOf331
 v51:=Tryz.zeroValue331
 t53:=Tryz.underlying334
 a53:=Tryz.isAgg334
 z53:=Tryz.sizeOf334
 v53:=Tryz.zeroValue334
 t146:=Tryz.underlying332
 a146:=Tryz.isAgg332
 z146:=Tryz.sizeOf332
 v146:=Tryz.zeroValue332
 t148:=Tryz.underlying335
 a148:=Tryz.isAgg335
 z148:=Tryz.sizeOf335
 v148:=Tryz.zeroValue335 }
end Go.Proofs.YtdliggkohdnipaaGreat
namespace Go.Proofs.YtdliggkohdnipaaGreat.T
open Go
section
variable {n:Nat} {s:aQ}
set_option maxRecDepth 100000
set_option maxHeartbeats 8000000
theorem zI.still {P:Program} {f:FuncId} {vs:List Value} {t:TS} {x:Value} {w:World} (hp:qw t=some x) (h:Calls P f vs.toArray w fun e w'=>e= .returned x∧w'=w):zI P f (vs.map V) (RP t) w:=by
 intro g args k hg hsz hargs
 have ha:args=vs.toArray:=by
  apply Array.ext
  simpa using hsz
  intro i h1 h2
  have h3:i < vs.length:=by simpa using h2
  have:=Ri (hargs i (V vs[i]) args[i] (by simp [h3]) (rY h1))
  simpa using this
 subst ha
 refine h.mono fun e w' ⟨he,hw⟩=> ?_
 subst he
 subst hw
 refine ⟨x,⟨[],fun _=>t⟩,g,rfl,rfl,⟨rfl,rfl,rfl,gL _,fun b hb=>rfl,fun b h1 h2=>by omega,fun b hb=> ?_,fun q d hq=> ?_,(iO hp).2 rfl⟩⟩
 rw [hg] at hb
 simp only [jn] at hb
 split at hb <;> cases hb
 simp at hq
theorem QB (n:Nat) (hn:n ≤ 24):aF Tryz.prog 306 [V (.int .u64 1),V (.int .u64 n)] (RP (.mj [.c (.ro (.v (.int .u64 0))), .c (.ro (.v (.int .u64 n)))])):=fun w=>by
 have h:=Go.Proofs.Any.bits_Mul Y1 1 n (by omega) (by omega) w
 have e1:((1 * n / 18446744073709551616:Nat):Int)=0:=by omega
 have e2:((1 * n % 18446744073709551616:Nat):Int)=n:=by omega
 rw [e1,e2] at h
 exact zI.still (vs:=[.int .u64 1, .int .u64 n]) rfl h
abbrev dz:D:= .st [.v (.int .i64 0), .v (.int .i64 0)]
abbrev zC (s:aQ) (n k:Nat):List D:=List.replicate k (aT s) ++ List.replicate (n - k) dz
theorem Wq:zC s n 1=(List.replicate n dz).take 0 ++ [aT s].take 1 ++ (List.replicate n dz).drop (0 + 1):=by simp [zC]
theorem TI {k m:Nat} (hk:k ≤ n) (hm:m ≤ n - k) (hm2:m ≤ k):zC s n (k + m)=(zC s n k).take k ++ (((zC s n k).take k).drop 0).take m ++ (zC s n k).drop (k + m):=by
 have e1:(zC s n k).take k=List.replicate k (aT s):=by simp [zC]
 have e2:(zC s n k).drop (k + m)=List.replicate (n - (k + m)) dz:=by
  simp only [zC,List.drop_append,List.length_replicate]
  rw [List.drop_eq_nil_of_le (by simp),List.nil_append,List.drop_replicate]
  congr 1
  omega
 rw [e1,e2,List.drop_zero,List.take_replicate,Nat.min_eq_left hm2,List.replicate_append_replicate]
theorem Ws:zC s n n=(List.replicate n s).map aT:=by simp [zC]
theorem zD (s:aQ) (n:Nat) (hn:1 ≤ n∧n ≤ 24):aF Tryz.prog 190 [.one (.c (.ro (.sl 2 [aT s]))),I n] (RL 2 ((List.replicate n s).map aT)):=by
 refine aF.w 48 Tryz.func190 fun w g0 _=> ?_
 refine LU 1 ?_ rfl
 refine cvu ?_
 refine cvu ?_
 refine ah (QB n (by omega)).k ?_
 refine aB ?_ ?_ <;> intro hb
 ·omega
 ·refine cvs ?_
  refine mkn ?_
  refine cpy 1 (zC s n 1) ?_ (by show 1=min _ _;simp;omega) (by decide) Wq
  refine ck [4,7,30] [30] [30] (fun (k:Nat)=>[.set 8 (I k)]) (fun (k:Nat)=>[(30,⟨false,[.own (.sl 2 (zC s n k))]⟩)]) (fun (k:Nat)=>1 ≤ k∧k ≤ n) (fun (k:Nat)=>n - k) (1) (⟨gL _,by omega⟩) ?_
  refine ⟨hda,fun k fq N1 bq=> ?_⟩
  have fq:1 ≤ k∧k ≤ n:=fq
  refine len ?_
  refine aB ?_ ?_ <;> intro iz
  ·refine gp [7] [7] [] (.quiet 1 0 (.quiet 2 0 (.quiet 3 0 (.quiet 4 0 (.quiet 5 0 (.quiet 6 0 (.quiet 0 1 (.fa 7 (.quiet 8 0 (.quiet 9 0 .done)))))))))) ?_
   repeat' first|exact True.intro|refine And.intro ?_ ?_|(intro _ _)|refine YE k n ?_ (by omega) (by simp <;> omega) (by omega) (by simp <;> omega)|refine YE 0 k ?_ (by omega) (by omega) (by omega) (by simp <;> omega)|refine cpy (min k (n - k)) (zC s n (k + min k (n - k))) ?_ (by show _=min _ _;simp [zC] <;> omega) (by omega) (TI (by omega) (by omega) (by omega))|refine cg ?_
   refine bq _ _ _ ?_
   refine hY (k + min k (n - k)) (by omega)
  ·refine bq _ _ _ ?_
   exact (by have hkn:k=n:=(by omega);subst hkn;rw [Ws];rfl)
end
end Go.Proofs.YtdliggkohdnipaaGreat.T
