import Derived.Test.YtdliggkohdnipaaGreatNir
set_option linter.unusedVariables false
set_option linter.unusedSimpArgs false
namespace Go.Proofs.YtdliggkohdnipaaGreat.T
open Go
section
variable {l:List Int} {i k p:Nat} {h:an} {x:aO} {y:aL}
set_option maxRecDepth 100000
set_option maxHeartbeats 8000000
def mask (l:List Int):List Bool:=(List.range 12).map fun (p:Nat)=>decide ((p:Int) ∈ l)
theorem vN (l:List Int):(mask l).length=12:=by simp [mask]
theorem UF (h:p < 12):(mask l)[p]? = some (decide ((p:Int) ∈ l)):=by simp [mask,h]
theorem UG:(mask l).set p true=mask (l ++ [(p:Int)]):=by
 apply List.ext_getElem?
 intro j
 rw [List.getElem?_set]
 simp only [mask,List.getElem?_map,List.length_map,List.length_range]
 by_cases hj:j < 12
 rw [List.getElem?_range hj]
 by_cases h:p=j
 subst h;simp [hj]
 simp [h,Ne.symm h]
 intro e
 exact absurd (by omega:p=j) h
 rw [List.getElem?_eq_none (by simp;omega)]
 split
 rw [if_neg (by omega)];rfl
 rfl
theorem I9 {p:Int} (h:0 ≤ p∧p < 12):(mask l)[p.toNat]? = some (decide (p ∈ l)):=by
 have:=UF (l:=l) (p:=p.toNat) (by omega)
 rwa [show ((p.toNat:Nat):Int)=p by omega] at this
theorem I_ {p:Int} (h:0 ≤ p):(mask l).set p.toNat true=mask (l ++ [p]):=by
 rw [UG,show ((p.toNat:Nat):Int)=p by omega]
theorem Fp {t:List aL} (hy:t[k]? = some y):kX (t.take (k + 1))=kX (t.take k) ++ if 0 ≤ y.aJ then [y.aJ] else []:=by
 unfold kX
 rw [List.take_add_one,hy,List.map_append,List.filter_append]
 by_cases h:0 ≤ y.aJ <;> simp [h]
theorem dB (h:eO x=true):x.ai.length=8∧x.aa.length ≤ 2∧x.Tables.length=x.aa.length∧x.Out.length=8∧x.a_.length=8∧∀ s ∈ x.ai,s=bu ∨ (0 ≤ s.aJ∧s.aJ ≤ 11∧1 ≤ s.aT∧s.aT ≤ 3):=by
 simp only [eO,Bool.and_eq_true] at h
 have h1:=yZ h.1.1.1
 refine ⟨h1.1,h1.2.2.2.1,h1.2.2.2.2.2,h1.2.1,h1.2.2.1,fun s hs=> ?_⟩
 have h2:=h.1.1.1
 simp only [ga,jP,Bool.and_eq_true] at h2
 have h3:=List.all_eq_true.1 h2.1.1.2.1 s hs
 simp only [iw,Bool.or_eq_true,Bool.and_eq_true,decide_eq_true_eq] at h3
 rcases h3 with h3|h3
 exact .inl h3
 exact .inr (by omega)
theorem MU (h:eO x=true) (hy:x.ai[k]? = some y): -1 ≤ y.aJ∧y.aJ ≤ 11:=by
 rcases (dB h).2.2.2.2.2 y (List.mem_of_getElem? hy) with rfl|h1
 exact ⟨by decide,by decide⟩
 omega
abbrev jf (h:an) (i:Nat) (t:List aL):List Int:=(h.ap.take i).flatMap fC ++ kX t
theorem Au (hx:h.ap[i]? = some x):(h.ap.take (i + 1)).flatMap fC=jf h i x.ai:=by
 rw [List.take_add_one,hx]
 simp [jf,fC]
theorem Qx (hx:h.ap[i]? = some x) (hy:x.ai[k]? = some y) (h0:0 ≤ y.aJ) (hm:y.aJ ∈ jf h i (x.ai.take k)):dL h=false:=by
 have h1:h.ap.flatMap fC=jf h i (x.ai.take k) ++ (y.aJ :: (kX (x.ai.drop (k + 1)) ++ (h.ap.drop (i + 1)).flatMap fC)):=by
  have e1:h.ap=h.ap.take i ++ x :: h.ap.drop (i + 1):=by
   have:=(List.getElem?_eq_some_iff.1 hx)
   rw [← this.2, ← List.drop_eq_getElem_cons,List.take_append_drop]
  have e2:x.ai=x.ai.take k ++ y :: x.ai.drop (k + 1):=by
   have:=(List.getElem?_eq_some_iff.1 hy)
   rw [← this.2, ← List.drop_eq_getElem_cons,List.take_append_drop]
  have e3:fC x=kX (x.ai.take k) ++ (y.aJ :: kX (x.ai.drop (k + 1))):=by
   unfold fC
   conv=>lhs;rw [e2]
   unfold kX
   rw [List.map_append,List.filter_append,List.map_cons,List.filter_cons,if_pos (by simpa using h0)]
  conv=>lhs;rw [e1]
  rw [List.flatMap_append,List.flatMap_cons,e3]
  simp [jf]
 have h2:¬ (h.ap.flatMap fC).Nodup:=by
  rw [h1,List.nodup_append]
  rintro ⟨_,_,h3⟩
  exact h3 _ hm _ List.mem_cons_self rfl
 unfold dL
 rw [decide_eq_false h2,Bool.and_false]
theorem Fq (hy:x.ai[k]? = some y) (h0:0 ≤ y.aJ) (hn:(jf h i (x.ai.take k)).Nodup) (hm:¬ y.aJ ∈ jf h i (x.ai.take k)):(jf h i (x.ai.take (k + 1))).Nodup∧jf h i (x.ai.take (k + 1))=jf h i (x.ai.take k) ++ [y.aJ]:=by
 have e:jf h i (x.ai.take (k + 1))=jf h i (x.ai.take k) ++ [y.aJ]:=by
  unfold jf
  rw [Fp hy,if_pos h0,List.append_assoc]
 refine ⟨?_,e⟩
 rw [e,List.nodup_append]
 exact ⟨hn,by simp,fun a ha b hb=>by rw [List.mem_singleton.1 hb];rintro rfl;exact hm ha⟩
theorem s6 (hy:x.ai[k]? = some y) (h0:¬ 0 ≤ y.aJ):jf h i (x.ai.take (k + 1))=jf h i (x.ai.take k):=by
 unfold jf
 rw [Fp hy,if_neg h0,List.append_nil]
def jk (h:an):Bool:=rL h.au 12 && j7 h.ap.length 1 3 && lQ h.Buffer && lQ h.aC
theorem oQ (h1:jk h=false):dL h=false:=by unfold jk at h1;unfold dL;rw [h1];simp
theorem Ja (h1:h.ap.all eO=false):dL h=false:=by unfold dL;rw [h1];simp
theorem Qy (h1:jk h=true) (h2:h.ap.all eO=true) (hn:((h.ap.take i).flatMap fC).Nodup) (hi:h.ap.length ≤ i):dL h=true:=by
 unfold jk at h1
 unfold dL
 rw [h1,h2]
 rw [List.take_of_length_le hi] at hn
 simp [hn]
theorem ko (x:an):aF Tryz.prog 329 [A (aq x)] (RV (.bool (dL x))):=by
 refine aF.w 72 Tryz.func329 fun w g0 hM=> ?_
 have eK:=hM.1.2.1.map
 refine ah (Am _ _).k ?_
 refine aB ?_ ?_ <;> intro Kr
 ·exact ay (by rw [oQ (by rw [Bool.eq_false_iff];intro e;simp only [jk,Bool.and_eq_true,decide_eq_true_eq] at e;(simp_all;done))])
 ·refine len ?_
  refine ah (aE _ _ _).k ?_
  refine aB ?_ ?_ <;> intro hg11
  ·exact ay (by rw [oQ (by rw [Bool.eq_false_iff];intro e;simp only [jk,Bool.and_eq_true,decide_eq_true_eq] at e;omega)])
  ·refine ah (uM _).k ?_
   refine aB ?_ ?_ <;> intro hg17
   ·exact ay (by rw [oQ (by rw [Bool.eq_false_iff];intro e;simp only [jk,Bool.and_eq_true,decide_eq_true_eq] at e;(simp_all;done))])
   ·refine ah (uM _).k ?_
    refine aB ?_ ?_ <;> intro hb
    ·exact ay (by rw [oQ (by rw [Bool.eq_false_iff];intro e;simp only [jk,Bool.and_eq_true,decide_eq_true_eq] at e;(simp_all;done))])
    ·have hpre:jk x=true:=(by unfold jk;simp only [*,Bool.and_true,Bool.true_and];exact decide_eq_true (by omega))
     refine Z0 12 ?_
     refine cI [1,3] [3] [3] (fun (i:Nat)=>[.set 4 (I i)]) (fun (i:Nat)=>[(3,⟨false,[.own (.sl 1 ((mask ((x.ap.take i).flatMap fC)).map bz))]⟩)]) (fun (i:Nat)=>(i ≤ x.ap.length)∧((x.ap.take i).all eO=true∧((x.ap.take i).flatMap fC).Nodup)) (fun (i:Nat)=>x.ap.length - i) (0) (⟨Nat.zero_le _,rfl,List.nodup_nil⟩) ?_
     refine ⟨(hda (by repeat' first|exact rfl|refine And.intro ?_ ?_|exact True.intro)),fun i hyp N1 bw=> ?_⟩
     have hyp:(i ≤ x.ap.length)∧((x.ap.take i).all eO=true∧((x.ap.take i).flatMap fC).Nodup):=hyp
     have ha:=kw hyp.2.1
     refine len ?_
     refine aB ?_ ?_ <;> intro gY
     ·obtain ⟨u,hu⟩:∃ u,x.ap[i]? = some u:=⟨_,List.getElem?_eq_getElem (by omega)⟩
      refine fN hu ?_
      skip
      refine ah (KB _).k ?_
      refine aB ?_ ?_ <;> intro tY
      ·refine bw _ _ _ ?_
       exact ay (by rw [Ja (ha.1 _ hu (by assumption))])
      ·have hmo:eO u=true:=by assumption
       have Qz:=dB hmo
       refine cI [1,3,4] [3] [3] (fun (k:Nat)=>[.set 5 (I k)]) (fun (k:Nat)=>[(3,⟨false,[.own (.sl 1 ((mask (jf x i (u.ai.take k))).map bz))]⟩)]) (fun (k:Nat)=>k ≤ u.ai.length∧(jf x i (u.ai.take k)).Nodup) (fun (k:Nat)=>u.ai.length - k) (0) (⟨Nat.zero_le _,by simpa [jf,kX] using hyp.2.2⟩) ?_
       refine ⟨(hda (by repeat' first|exact rfl|refine And.intro ?_ ?_|exact True.intro|(refine eV ?_;simp [jf,kX];done))),fun k gb N2 oY=> ?_⟩
       have gb:k ≤ u.ai.length∧(jf x i (u.ai.take k)).Nodup:=gb
       have MJ:=hyp.1
       have MT:=gb.1
       refine aB ?_ ?_ <;> intro yW
       ·obtain ⟨s,hs⟩:∃ s,u.ai[k]? = some s:=⟨_,List.getElem?_eq_getElem (by omega)⟩
        have hsr:=MU hmo hs
        refine fN hu ?_
        skip
        skip
        refine fN hs ?_
        skip
        skip
        refine aB ?_ ?_ <;> intro mS
        ·have hmg:=I9 (l:=jf x i (u.ai.take k)) (p:=s.aJ) (by omega)
         refine aZ ?_ (by rw [List.length_map,vN];omega)
         refine aI (by assumption) ?_
         refine aB ?_ ?_ <;> intro CE
         ·refine oY _ _ _ ?_
          refine bw _ _ _ ?_
          exact ay (by rw [Qx hu hs (by omega) (by assumption)])
         ·refine aB ?_ ?_ <;> intro NX
          ·refine aZ ?_ (by rw [List.length_map,vN];omega)
           refine aI (by assumption) ?_
           refine cD ?_
           refine oY _ _ _ ?_
           refine iF (k + 1) (by exact ⟨by omega,(Fq hs (by omega) gb.2 (by assumption)).1⟩) (by repeat' first|exact rfl|refine And.intro ?_ ?_|exact True.intro|(refine eV ?_;rw [(Fq hs (by omega) gb.2 (by assumption)).2, ← I_ (by omega),List.map_set];done))
          ·refine cD ?_
           refine oY _ _ _ ?_
           refine iF (k + 1) (by exact ⟨by omega,(Fq hs (by omega) gb.2 (by assumption)).1⟩) (by repeat' first|exact rfl|refine And.intro ?_ ?_|exact True.intro|(refine eV ?_;rw [s6 hs (by omega)];done))
        ·refine aB ?_ ?_ <;> intro RS
         ·refine aZ ?_ (by rw [List.length_map,vN];omega)
          refine rA (fun z8 hz8 qz8 lz8=> ?_)
          refine cD ?_
          refine oY _ _ _ ?_
          refine iF (k + 1) (by exact ⟨by omega,by rw [s6 hs (by omega)];exact gb.2⟩) (by repeat' first|exact rfl|refine And.intro ?_ ?_|exact True.intro|(refine eV ?_;(exfalso;omega)))
         ·refine cD ?_
          refine oY _ _ _ ?_
          refine iF (k + 1) (by exact ⟨by omega,by rw [s6 hs (by omega)];exact gb.2⟩) (by repeat' first|exact rfl|refine And.intro ?_ ?_|exact True.intro|(refine eV ?_;rw [s6 hs (by omega)];done))
       ·refine oY _ _ _ ?_
        refine cD ?_
        refine bw _ _ _ ?_
        refine iF (i + 1) (⟨by omega,iS hyp.2.1 hu hmo,by rw [Au hu];rw [show u.ai.take k=u.ai from List.take_of_length_le (by omega)] at gb;exact gb.2⟩) (by repeat' first|exact rfl|refine And.intro ?_ ?_|exact True.intro|(refine eV ?_;rw [Au hu,show u.ai.take k=u.ai from List.take_of_length_le (by omega)];done))
     ·refine bw _ _ _ ?_
      exact ay (by rw [Qy hpre (ha.2 (by omega)) hyp.2.2 (by omega)])
theorem fo (x:an):aF Tryz.prog 40 [A (aq x)] (RV (.bool (dL x))):=by
 refine aF.w 63 Tryz.func40 fun w g0 hM=> ?_
 have eK:=hM.1.2.1.map
 refine ah (An _ _).k ?_
 refine aB ?_ ?_ <;> intro Kr
 ·exact ay (by rw [oQ (by rw [Bool.eq_false_iff];intro e;simp only [jk,Bool.and_eq_true,decide_eq_true_eq] at e;(simp_all;done))])
 ·refine len ?_
  refine ah (aS _ _ _).k ?_
  refine aB ?_ ?_ <;> intro hg11
  ·exact ay (by rw [oQ (by rw [Bool.eq_false_iff];intro e;simp only [jk,Bool.and_eq_true,decide_eq_true_eq] at e;omega)])
  ·refine ah (uN _).k ?_
   refine aB ?_ ?_ <;> intro hg17
   ·exact ay (by rw [oQ (by rw [Bool.eq_false_iff];intro e;simp only [jk,Bool.and_eq_true,decide_eq_true_eq] at e;(simp_all;done))])
   ·refine ah (uN _).k ?_
    refine aB ?_ ?_ <;> intro hb
    ·exact ay (by rw [oQ (by rw [Bool.eq_false_iff];intro e;simp only [jk,Bool.and_eq_true,decide_eq_true_eq] at e;(simp_all;done))])
    ·have hpre:jk x=true:=(by unfold jk;simp only [*,Bool.and_true,Bool.true_and];exact decide_eq_true (by omega))
     refine Z0 12 ?_
     refine len ?_
     refine cI [3,33,34] [3] [3] (fun (i:Nat)=>[.set 35 (I i)]) (fun (i:Nat)=>[(3,⟨false,[.own (.sl 1 ((mask ((x.ap.take i).flatMap fC)).map bz))]⟩)]) (fun (i:Nat)=>(i ≤ x.ap.length)∧((x.ap.take i).all eO=true∧((x.ap.take i).flatMap fC).Nodup)) (fun (i:Nat)=>x.ap.length - i) (0) (⟨Nat.zero_le _,rfl,List.nodup_nil⟩) ?_
     refine ⟨(hda (by repeat' first|exact rfl|refine And.intro ?_ ?_|exact True.intro)),fun i hyp N1 bw=> ?_⟩
     have hyp:(i ≤ x.ap.length)∧((x.ap.take i).all eO=true∧((x.ap.take i).flatMap fC).Nodup):=hyp
     have ha:=kw hyp.2.1
     refine aB ?_ ?_ <;> intro gY
     ·obtain ⟨u,hu⟩:∃ u,x.ap[i]? = some u:=⟨_,List.getElem?_eq_getElem (by omega)⟩
      refine fN hu ?_
      skip
      refine ah (KC _).k ?_
      refine aB ?_ ?_ <;> intro tY
      ·refine bw _ _ _ ?_
       exact ay (by rw [Ja (ha.1 _ hu (by assumption))])
      ·have hmo:eO u=true:=by assumption
       have Qz:=dB hmo
       refine len ?_
       refine cI [3,33,34,35,43,44] [3] [3] (fun (k:Nat)=>[.set 45 (I k)]) (fun (k:Nat)=>[(3,⟨false,[.own (.sl 1 ((mask (jf x i (u.ai.take k))).map bz))]⟩)]) (fun (k:Nat)=>k ≤ u.ai.length∧(jf x i (u.ai.take k)).Nodup) (fun (k:Nat)=>u.ai.length - k) (0) (⟨Nat.zero_le _,by simpa [jf,kX] using hyp.2.2⟩) ?_
       refine ⟨(hda (by repeat' first|exact rfl|refine And.intro ?_ ?_|exact True.intro|(refine eV ?_;simp [jf,kX];done))),fun k gb N2 oY=> ?_⟩
       have gb:k ≤ u.ai.length∧(jf x i (u.ai.take k)).Nodup:=gb
       have MJ:=hyp.1
       have MT:=gb.1
       refine aB ?_ ?_ <;> intro yW
       ·obtain ⟨s,hs⟩:∃ s,u.ai[k]? = some s:=⟨_,List.getElem?_eq_getElem (by omega)⟩
        have hsr:=MU hmo hs
        refine fN hs ?_
        skip
        refine aB ?_ ?_ <;> intro CE
        ·refine cD ?_
         refine oY _ _ _ ?_
         refine iF (k + 1) (by exact ⟨by omega,by rw [s6 hs (by omega)];exact gb.2⟩) (by repeat' first|exact rfl|refine And.intro ?_ ?_|exact True.intro|(refine eV ?_;rw [s6 hs (by omega)];done))
        ·have hmg:=I9 (l:=jf x i (u.ai.take k)) (p:=s.aJ) (by omega)
         refine aZ ?_ (by rw [List.length_map,vN];omega)
         refine aI (by assumption) ?_
         refine aB ?_ ?_ <;> intro NX
         ·refine oY _ _ _ ?_
          refine bw _ _ _ ?_
          exact ay (by rw [Qx hu hs (by omega) (by assumption)])
         ·refine aZ ?_ (by rw [List.length_map,vN];omega)
          refine aI (by assumption) ?_
          refine cD ?_
          refine oY _ _ _ ?_
          refine iF (k + 1) (by exact ⟨by omega,(Fq hs (by omega) gb.2 (by assumption)).1⟩) (by repeat' first|exact rfl|refine And.intro ?_ ?_|exact True.intro|(refine eV ?_;rw [(Fq hs (by omega) gb.2 (by assumption)).2, ← I_ (by omega),List.map_set];done))
       ·refine oY _ _ _ ?_
        refine cD ?_
        refine bw _ _ _ ?_
        refine iF (i + 1) (⟨by omega,iS hyp.2.1 hu hmo,by rw [Au hu];rw [show u.ai.take k=u.ai from List.take_of_length_le (by omega)] at gb;exact gb.2⟩) (by repeat' first|exact rfl|refine And.intro ?_ ?_|exact True.intro|(refine eV ?_;rw [Au hu,show u.ai.take k=u.ai from List.take_of_length_le (by omega)];done))
     ·refine bw _ _ _ ?_
      exact ay (by rw [Qy hpre (ha.2 (by omega)) hyp.2.2 (by omega)])
theorem kL (x:bQ) [Q (de x)]:aF Tryz.prog 322 [A (fU x)] (RG [.a (fU x)]):=by
 refine aF.w 12 Tryz.func322 fun w g0 _=> ?_
 refine fW [3,7,9] [3,7] [1] (.quiet 1 0 (.quiet 2 0 (.quiet 5 1 (.quiet 6 1 (.fork (.alt 0 (.fork (.alt 3 (.fork (.alt 4 (.fork (.alt 7 (.quiet 8 0 (.fork (.alt 9 .done .stop))) .stop)) .stop)) (.alt 4 (.fork (.alt 3 (.fork (.alt 7 (.quiet 8 0 (.fork (.alt 9 .done .stop))) .stop)) .stop)) .stop))) (.alt 4 (.fork (.alt 0 (.fork (.alt 3 (.fork (.alt 7 (.quiet 8 0 (.fork (.alt 9 .done .stop))) .stop)) .stop)) .stop)) .stop))))))) ?_
 repeat' first|exact True.intro|refine And.intro ?_ ?_|(intro _ _)|refine cB ?_
 all_goals exact rfl
theorem j9 (x:bQ) [Q (de x)]:aF Tryz.prog 184 [A (fU x)] (RG [.a (fU x)]):=by
 refine aF.w 11 Tryz.func184 fun w g0 _=> ?_
 refine fW [3,8] [3] [1] (.quiet 1 0 (.quiet 2 0 (.quiet 4 1 (.quiet 5 1 (.fork (.alt 0 (.fork (.alt 3 (.fork (.alt 6 (.quiet 7 0 (.fork (.alt 8 .done .stop))) .stop)) .stop)) .stop)))))) ?_
 repeat' first|exact True.intro|refine And.intro ?_ ?_|(intro _ _)|refine cB ?_|refine bk (jz _).k ?_
 exact rfl
end
end Go.Proofs.YtdliggkohdnipaaGreat.T
