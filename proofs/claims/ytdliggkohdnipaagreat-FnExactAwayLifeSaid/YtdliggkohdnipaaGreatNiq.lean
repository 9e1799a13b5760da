import Derived.Test.YtdliggkohdnipaaGreatNhq
set_option linter.unusedVariables false
set_option linter.unusedSimpArgs false
namespace Go.Proofs.YtdliggkohdnipaaGreat.T
open Go
section
variable {p:List Int} {b:List bP} {i k:Nat} {y z:bP} {x:aV} {s:aQ}
set_option maxRecDepth 100000
set_option maxHeartbeats 8000000
theorem BQ (h:zO b i k=true) (hy:b[i]? = some y) (hz:b[k]? = some z) (hn:¬ (y.Tag=z.Tag∧y.aN=z.aN)):zO b i (k + 1)=true:=by
 unfold zO at h ⊢
 rw [List.range_succ,List.all_append,h,hy]
 have h2:V_ y z=false:=decide_eq_false hn
 simp [hz,h2]
theorem Oj (h:zP b i=true) (h1:zO b i i=true):zP b (i + 1)=true:=by
 unfold zP at h ⊢
 rw [List.range_succ,List.all_append,h]
 simp [h1]
theorem R4 (hi:i < b.length) (hk:k < i) (hy:b[i]? = some y) (hz:b[k]? = some z) (h:y.Tag=z.Tag∧y.aN=z.aN):ni b=false:=by
 have h1:zO b i i=false:=by
  rw [dG]
  intro e
  have h2:=eY.1 e k (List.mem_range.2 hk)
  rw [hy,hz] at h2
  simp [V_,h] at h2
 have h3:zP b b.length=false:=by
  rw [dG]
  intro e
  have h2:=eY.1 e i (List.mem_range.2 hi)
  rw [h1] at h2
  cases h2
 unfold ni
 rw [h3]
 rfl
theorem R5 (h:zP b i=true) (hi:i=b.length):ni b=decide ((b.length:Int) ≤ 6):=by
 subst hi
 unfold ni
 rw [h,jr,dX]
 simp
 omega
theorem TE {P:Nat→Bool} {n:Nat} (hk:k < n) (h:P k=false):(List.range n).all P=false:=by
 rw [List.all_eq_false]
 exact ⟨k,List.mem_range.2 hk,by simp [h]⟩
theorem lX {P:Nat→Bool} (h:(List.range k).all P=true) (hp:P k=true):(List.range (k + 1)).all P=true:=by
 rw [List.range_succ,List.all_append,h]
 simp [hp]
theorem AM (h:gP x=true):x.ak.length=8∧x.Out.length=8∧x.bI.length=8∧x.aa.length ≤ 2∧1 ≤ x.aa.length∧x.Tables.length=x.aa.length:=by
 simp only [gP,bh,decide_eq_true_eq,kL] at h
 omega
theorem Ol (h1:x.ak[i]? = some s) (h2:x.Out[i]? = some p):sv x i=if s=bE then jx p else decide (p.length=0) && fS s.bf 1:=by unfold sv;rw [h1,h2]
theorem KE (h1:x.ak[i]? = some s) (h2:x.Out[i]? = some p) (h:s.aN= -1∧s.bf=0):sv x i=jx p:=by
 rw [Ol h1 h2,if_pos]
 obtain ⟨a,b⟩:=s
 simp_all
theorem Wn (h1:x.ak[i]? = some s) (h2:x.Out[i]? = some p) (h:¬ (s.aN= -1∧s.bf=0)):sv x i=(decide (p.length=0) && fS s.bf 1):=by
 rw [Ol h1 h2,if_neg]
 rintro rfl
 exact h ⟨rfl,rfl⟩
theorem AN (h1:x.ak[i]? = some s) (h2:x.Out[i]? = some p) (h:((s.aN= -1∧s.bf=0)∧jx p=false) ∨ (¬ (s.aN= -1∧s.bf=0)∧(¬ p.length=0 ∨ fS s.bf 1=false))):sv x i=false:=by
 rcases h with ⟨h,h3⟩|⟨h,h3⟩
 rw [KE h1 h2 h,h3]
 rw [Wn h1 h2 h]
 rcases h3 with h3|h3
 rw [decide_eq_false h3];rfl
 rw [h3,jt]
theorem yW (h1:x.ak[i]? = some s) (h2:x.Out[i]? = some p) (h:((s.aN= -1∧s.bf=0)∧jx p=true) ∨ (¬ (s.aN= -1∧s.bf=0)∧(p.length=0∧fS s.bf 1=true))):sv x i=true:=by
 rcases h with ⟨h,h3⟩|⟨h,h3⟩
 rw [KE h1 h2 h,h3]
 rw [Wn h1 h2 h,h3.2,decide_eq_true h3.1];rfl
theorem oz (h:(gP x && kj x)=false):fy x=false:=by
 rw [Bool.and_eq_false_iff] at h
 rcases h with h|h <;> simp [fy,h]
theorem xR (h:gP x=false):fy x=false:=by simp [fy,h]
theorem Om (h:x.aa.all bT=false):fy x=false:=by simp [fy,h]
theorem sH (hi:i < 8) (h:sv x i=false):fy x=false:=by simp [fy,TE hi h]
theorem G1 (h1:gP x=true) (h2:x.aa.all bT=true) (h3:(List.range i).all (sv x)=true) (hi:i=8):fy x=kj x:=by subst hi;simp [fy,h1,h2,h3]
theorem wA (b:List bP):aF Tryz.prog 428 [L 4 (b.map aC)] (RV (.bool (ni b))):=by
 refine aF.w 43 Tryz.func428 fun w g0 hM=> ?_
 have eW:=hM.1.map
 refine ck [0] [] [] (fun (i:Nat)=>[.set 3 (I i)]) (fun (i:Nat)=>[]) (fun (i:Nat)=>(i ≤ b.length)∧(zP b i=true)) (fun (i:Nat)=>b.length - i) (0) (⟨bG _,rfl⟩) ?_
 refine ⟨hda,fun i hyp N1 bq=> ?_⟩
 have hyp:(i ≤ b.length)∧(zP b i=true):=hyp
 have Es:=hyp.1
 refine len ?_
 refine aB ?_ ?_ <;> intro hb
 ·obtain ⟨u,hu⟩:∃ u,b[i]? = some u:=⟨_,bg (by omega)⟩
  refine ck [0,3] [] [] (fun (k:Nat)=>[.set 4 (I k)]) (fun (k:Nat)=>[]) (fun (k:Nat)=>k ≤ i∧zO b i k=true) (fun (k:Nat)=>i - k) (0) (⟨bG _,rfl⟩) ?_
  refine ⟨hda,fun k fq N2 oL=> ?_⟩
  have fq:k ≤ i∧zO b i k=true:=fq
  have On:=fq.1
  refine aB ?_ ?_ <;> intro iz
  ·obtain ⟨z,hz⟩:∃ u,b[k]? = some u:=⟨_,bg (by omega)⟩
   refine o_ ?_
   refine dM hu ?_
   skip
   refine dM hz ?_
   skip
   refine aB ?_ ?_ <;> intro hg11
   ·refine dM hu ?_
    skip
    refine dM hz ?_
    skip
    refine aB ?_ ?_ <;> intro tr
    ·refine oL _ _ _ ?_
     refine bq _ _ _ ?_
     exact ay (by rw [R4 (i:=i) (k:=k) (by omega) (by omega) hu hz (by omega)])
    ·refine cg ?_
     refine oL _ _ _ ?_
     refine hY (k + 1) (⟨by omega,BQ fq.2 hu hz (by omega)⟩)
   ·refine cg ?_
    refine oL _ _ _ ?_
    refine hY (k + 1) (⟨by omega,BQ fq.2 hu hz (by omega)⟩)
  ·refine oL _ _ _ ?_
   refine cg ?_
   refine bq _ _ _ ?_
   refine hY (i + 1) (⟨by omega,Oj hyp.2 (by rw [show k=i by omega] at fq;exact fq.2)⟩)
 ·refine bq _ _ _ ?_
  refine len ?_
  exact ay (by rw [R5 hyp.2 (by omega)])
theorem wB (b:List bP):aF Tryz.prog 118 [L 4 (b.map aC)] (RV (.bool (ni b))):=by
 refine aF.w 39 Tryz.func118 fun w g0 hM=> ?_
 have eW:=hM.1.map
 refine len ?_
 refine ck [0,7,8] [] [] (fun (i:Nat)=>[.set 9 (I i)]) (fun (i:Nat)=>[]) (fun (i:Nat)=>(i ≤ b.length)∧(zP b i=true)) (fun (i:Nat)=>b.length - i) (0) (⟨bG _,rfl⟩) ?_
 refine ⟨hda,fun i hyp N1 bq=> ?_⟩
 have hyp:(i ≤ b.length)∧(zP b i=true):=hyp
 have Es:=hyp.1
 refine aB ?_ ?_ <;> intro hb
 ·obtain ⟨u,hu⟩:∃ u,b[i]? = some u:=⟨_,bg (by omega)⟩
  refine dM hu ?_
  skip
  refine cut 0 i ?_
  refine LU i ?_ (by show ((b.map aC).take i).length=i;rw [e_,aI];omega)
  refine ck [0,4,7,8,9,16,17] [] [] (fun (k:Nat)=>[.set 18 (I k)]) (fun (k:Nat)=>[]) (fun (k:Nat)=>k ≤ i∧zO b i k=true) (fun (k:Nat)=>i - k) (0) (⟨bG _,rfl⟩) ?_
  refine ⟨hda,fun k fq N2 oL=> ?_⟩
  have fq:k ≤ i∧zO b i k=true:=fq
  have On:=fq.1
  refine aB ?_ ?_ <;> intro iz
  ·obtain ⟨z,hz⟩:∃ u,b[k]? = some u:=⟨_,bg (by omega)⟩
   refine ixd (m:=k) (d:=aC z) (by show ((b.map aC).take i)[k]? = _;rw [List.getElem?_take,if_pos (by omega),ec,hz];rfl) ?_
   skip
   refine aB ?_ ?_ <;> intro Py
   ·refine aB ?_ ?_ <;> intro tr
    ·refine oL _ _ _ ?_
     refine bq _ _ _ ?_
     exact ay (by rw [R4 (i:=i) (k:=k) (by omega) (by omega) hu hz (by omega)])
    ·refine cg ?_
     refine oL _ _ _ ?_
     refine hY (k + 1) (⟨by omega,BQ fq.2 hu hz (by omega)⟩)
   ·refine cg ?_
    refine oL _ _ _ ?_
    refine hY (k + 1) (⟨by omega,BQ fq.2 hu hz (by omega)⟩)
  ·refine oL _ _ _ ?_
   refine cg ?_
   refine bq _ _ _ ?_
   refine hY (i + 1) (⟨by omega,Oj hyp.2 (by rw [show k=i by omega] at fq;exact fq.2)⟩)
 ·refine bq _ _ _ ?_
  refine len ?_
  exact ay (by rw [R5 hyp.2 (by omega)])
theorem Mc (x:aV):aF Tryz.prog 375 [A (vv x)] (RV (.bool (fy x))):=by
 refine aF.w 115 Tryz.func375 fun w g0 hM=> ?_
 have TG:bE.aN= -1:=rfl
 have TH:bE.bf=0:=rfl
 have eW:=hM.1.2.2.2.1.map
 refine len ?_
 refine ah (aE _ _ _).k ?_
 refine aB ?_ ?_ <;> intro Py
 ·exact ay (by rw [xR (by rw [dG];intro e;simp only [gP,bh,decide_eq_true_eq] at e;omega)])
 ·refine len ?_
  refine len ?_
  refine aB ?_ ?_ <;> intro Y0
  ·exact ay (by rw [xR (by rw [dG];intro e;simp only [gP,bh,decide_eq_true_eq] at e;omega)])
  ·refine ah (sA _ _ _).k ?_
   refine aB ?_ ?_ <;> intro hg20
   ·exact ay (by rw [xR (by rw [dG];intro e;simp only [gP,bh,decide_eq_true_eq] at e;(simp_all;done))])
   ·refine len ?_
    refine aB ?_ ?_ <;> intro hg26
    ·exact ay (by rw [xR (by rw [dG];intro e;simp only [gP,bh,decide_eq_true_eq] at e;omega)])
    ·refine len ?_
     refine aB ?_ ?_ <;> intro hb
     ·exact ay (by rw [xR (by rw [dG];intro e;simp only [gP,bh,decide_eq_true_eq] at e;omega)])
     ·have hp:gP x=true:=(by unfold gP;simp only [bh,decide_eq_true_eq];refine ⟨⟨⟨⟨?_, ?_⟩, ?_⟩, ?_⟩, ?_⟩ <;> omega)
      have hln:=AM hp
      refine ck [1] [] [] (fun (i:Nat)=>[.set 3 (I i)]) (fun (i:Nat)=>[]) (fun (i:Nat)=>(i ≤ x.aa.length)∧((x.aa.take i).all bT=true)) (fun (i:Nat)=>x.aa.length - i) (0) (⟨bG _,rfl⟩) ?_
      refine ⟨hda,fun i hyp N1 bq=> ?_⟩
      have hyp:(i ≤ x.aa.length)∧((x.aa.take i).all bT=true):=hyp
      have ha:=lI hyp.2
      refine len ?_
      refine aB ?_ ?_ <;> intro iz
      ·refine s6 (fun y48 hy48 qy48 ly48=> ?_)
       skip
       refine ah (xK _).k ?_
       refine aB ?_ ?_ <;> intro tr
       ·refine bq _ _ _ ?_
        exact ay (by rw [Om (ha.1 _ ‹_› ‹_›)])
       ·refine cg ?_
        refine bq _ _ _ ?_
        refine hY (i + 1) (⟨by omega,jD hyp.2 ‹_› ‹_›⟩)
      ·refine bq _ _ _ ?_
       have hga:x.aa.all bT=true:=ha.2 (by omega)
       refine ck [1] [] [] (fun (i:Nat)=>[.set 4 (I i)]) (fun (i:Nat)=>[]) (fun (i:Nat)=>i ≤ 8∧(List.range i).all (sv x)=true) (fun (i:Nat)=>8 - i) (0) (⟨bG _,rfl⟩) ?_
       refine ⟨hda,fun i w7 N2 oL=> ?_⟩
       have w7:i ≤ 8∧(List.range i).all (sv x)=true:=w7
       have hypi1:=w7.1
       refine aB ?_ ?_ <;> intro AJ
       ·obtain ⟨s,hs⟩:∃ s,x.ak[i]? = some s:=⟨_,bg (by omega)⟩
        obtain ⟨p,R6⟩:∃ p,x.Out[i]? = some p:=⟨_,bg (by omega)⟩
        refine o_ ?_
        refine dM ‹_› ?_
        skip
        refine iL (cW).k ?_
        refine Tw ?_
        refine aB ?_ ?_ <;> intro hg1
        ·refine dM ‹_› ?_
         skip
         skip
         refine len ?_
         refine aB ?_ ?_ <;> intro hg9
         ·refine oL _ _ _ ?_
          exact ay (by rw [sH (i:=i) (by omega) (AN hs R6 (by rcases Decidable.em (s.aN= -1∧s.bf=0) with q6|q6 <;> first|(refine .inl ⟨q6, ?_⟩;(exfalso;omega))|(refine .inr ⟨q6, ?_⟩;(left;omega))))])
         ·refine dM ‹_› ?_
          skip
          refine ah (lz _ _).k ?_
          refine aB ?_ ?_ <;> intro hg20
          ·refine oL _ _ _ ?_
           exact ay (by rw [sH (i:=i) (by omega) (AN hs R6 (by rcases Decidable.em (s.aN= -1∧s.bf=0) with q6|q6 <;> first|(refine .inl ⟨q6, ?_⟩;(exfalso;omega))|(refine .inr ⟨q6, ?_⟩;(right;assumption))))])
          ·refine aB ?_ ?_ <;> intro hg23
           ·refine dM ‹_› ?_
            skip
            refine ah (pZ _).k ?_
            refine aB ?_ ?_ <;> intro D0
            ·refine oL _ _ _ ?_
             exact ay (by rw [sH (i:=i) (by omega) (AN hs R6 (by rcases Decidable.em (s.aN= -1∧s.bf=0) with q6|q6 <;> first|(refine .inl ⟨q6, ?_⟩;assumption)|(refine .inr ⟨q6, ?_⟩;(exfalso;omega))))])
            ·refine cg ?_
             refine oL _ _ _ ?_
             refine hY (i + 1) (⟨by omega,lX w7.2 (yW hs R6 (by rcases Decidable.em (s.aN= -1∧s.bf=0) with q6|q6 <;> first|(refine .inl ⟨q6, ?_⟩;assumption)|(refine .inr ⟨q6, ?_⟩;(exfalso;omega))))⟩)
           ·refine cg ?_
            refine oL _ _ _ ?_
            refine hY (i + 1) (⟨by omega,lX w7.2 (yW hs R6 (by rcases Decidable.em (s.aN= -1∧s.bf=0) with q6|q6 <;> first|(refine .inl ⟨q6, ?_⟩;(exfalso;omega))|(refine .inr ⟨q6, ?_⟩;(refine ⟨?_, ?_⟩ <;> omega))))⟩)
        ·refine aB ?_ ?_ <;> intro hg23
         ·refine dM ‹_› ?_
          skip
          refine ah (pZ _).k ?_
          refine aB ?_ ?_ <;> intro Pz
          ·refine oL _ _ _ ?_
           exact ay (by rw [sH (i:=i) (by omega) (AN hs R6 (by rcases Decidable.em (s.aN= -1∧s.bf=0) with q6|q6 <;> first|(refine .inl ⟨q6, ?_⟩;assumption)|(refine .inr ⟨q6, ?_⟩;(exfalso;omega))))])
          ·refine cg ?_
           refine oL _ _ _ ?_
           refine hY (i + 1) (⟨by omega,lX w7.2 (yW hs R6 (by rcases Decidable.em (s.aN= -1∧s.bf=0) with q6|q6 <;> first|(refine .inl ⟨q6, ?_⟩;assumption)|(refine .inr ⟨q6, ?_⟩;(exfalso;omega))))⟩)
         ·refine cg ?_
          refine oL _ _ _ ?_
          refine hY (i + 1) (⟨by omega,lX w7.2 (yW hs R6 (by rcases Decidable.em (s.aN= -1∧s.bf=0) with q6|q6 <;> first|(refine .inl ⟨q6, ?_⟩;(exfalso;omega))|(refine .inr ⟨q6, ?_⟩;(exfalso;omega))))⟩)
       ·refine oL _ _ _ ?_
        refine len ?_
        refine aB ?_ ?_ <;> intro Fu
        ·refine ah (nl _).k ?_
         refine aB ?_ ?_ <;> intro hg9
         ·refine ah (aE _ _ _).k ?_
          refine aB ?_ ?_ <;> intro Y0
          ·refine ah (aE _ _ _).k ?_
           exact ay (by rw [G1 hp hga w7.2 (by omega)];refine congrArg Value.bool ?_;unfold kj;(rw [dX];simp only [bh,decide_eq_true_eq];omega))
          ·exact ay (by rw [G1 hp hga w7.2 (by omega)];refine congrArg Value.bool ?_;unfold kj;(symm;rw [dG];intro e;simp only [bh,decide_eq_true_eq] at e;omega))
         ·exact ay (by rw [G1 hp hga w7.2 (by omega)];refine congrArg Value.bool ?_;unfold kj;(symm;rw [dG];intro e;simp only [bh,decide_eq_true_eq] at e;omega))
        ·exact ay (by rw [G1 hp hga w7.2 (by omega)];refine congrArg Value.bool ?_;unfold kj;(symm;rw [dG];intro e;simp only [bh,decide_eq_true_eq] at e;omega))
theorem Md (x:aV):aF Tryz.prog 119 [A (vv x)] (RV (.bool (fy x))):=by
 refine aF.w 106 Tryz.func119 fun w g0 hM=> ?_
 have TG:bE.aN= -1:=rfl
 have TH:bE.bf=0:=rfl
 have eW:=hM.1.2.2.2.1.map
 refine len ?_
 refine ah (aU _ _ _).k ?_
 refine aB ?_ ?_ <;> intro Py
 ·exact ay (by rw [oz (by rw [dG];intro e;simp only [gP,kj,bh,decide_eq_true_eq] at e;omega)])
 ·refine len ?_
  refine len ?_
  refine aB ?_ ?_ <;> intro Y0
  ·exact ay (by rw [oz (by rw [dG];intro e;simp only [gP,kj,bh,decide_eq_true_eq] at e;omega)])
  ·refine ah (sB _ _ _).k ?_
   refine aB ?_ ?_ <;> intro hg20
   ·exact ay (by rw [oz (by rw [dG];intro e;simp only [gP,kj,bh,decide_eq_true_eq] at e;(simp_all;done))])
   ·refine len ?_
    refine aB ?_ ?_ <;> intro hg26
    ·exact ay (by rw [oz (by rw [dG];intro e;simp only [gP,kj,bh,decide_eq_true_eq] at e;omega)])
    ·refine len ?_
     refine aB ?_ ?_ <;> intro hg32
     ·exact ay (by rw [oz (by rw [dG];intro e;simp only [gP,kj,bh,decide_eq_true_eq] at e;omega)])
     ·refine len ?_
      refine aB ?_ ?_ <;> intro hg38
      ·exact ay (by rw [oz (by rw [dG];intro e;simp only [gP,kj,bh,decide_eq_true_eq] at e;omega)])
      ·refine ah (nq _).k ?_
       refine aB ?_ ?_ <;> intro hg44
       ·exact ay (by rw [oz (by rw [dG];intro e;simp only [gP,kj,bh,decide_eq_true_eq] at e;omega)])
       ·refine ah (aU _ _ _).k ?_
        refine aB ?_ ?_ <;> intro hg50
        ·exact ay (by rw [oz (by rw [dG];intro e;simp only [gP,kj,bh,decide_eq_true_eq] at e;omega)])
        ·refine ah (aU _ _ _).k ?_
         refine aB ?_ ?_ <;> intro hb
         ·exact ay (by rw [oz (by rw [dG];intro e;simp only [gP,kj,bh,decide_eq_true_eq] at e;omega)])
         ·have hp:gP x=true:=(by unfold gP;simp only [bh,decide_eq_true_eq];refine ⟨⟨⟨⟨?_, ?_⟩, ?_⟩, ?_⟩, ?_⟩ <;> omega)
          have hme:kj x=true:=(by unfold kj;simp only [bh,decide_eq_true_eq];refine ⟨⟨⟨?_, ?_⟩, ?_⟩, ?_⟩ <;> omega)
          have hln:=AM hp
          refine len ?_
          refine ck [1,64,65] [] [] (fun (i:Nat)=>[.set 66 (I i)]) (fun (i:Nat)=>[]) (fun (i:Nat)=>(i ≤ x.aa.length)∧((x.aa.take i).all bT=true)) (fun (i:Nat)=>x.aa.length - i) (0) (⟨bG _,rfl⟩) ?_
          refine ⟨hda,fun i hyp N1 bq=> ?_⟩
          have hyp:(i ≤ x.aa.length)∧((x.aa.take i).all bT=true):=hyp
          have ha:=lI hyp.2
          refine aB ?_ ?_ <;> intro iz
          ·refine s6 (fun y68 hy68 qy68 ly68=> ?_)
           skip
           refine ah (xL _).k ?_
           refine aB ?_ ?_ <;> intro tr
           ·refine bq _ _ _ ?_
            exact ay (by rw [Om (ha.1 _ ‹_› ‹_›)])
           ·refine cg ?_
            refine bq _ _ _ ?_
            refine hY (i + 1) (⟨by omega,jD hyp.2 ‹_› ‹_›⟩)
          ·refine bq _ _ _ ?_
           have hga:x.aa.all bT=true:=ha.2 (by omega)
           refine len ?_
           refine ck [1,75,76] [] [] (fun (i:Nat)=>[.set 77 (I i)]) (fun (i:Nat)=>[]) (fun (i:Nat)=>i ≤ 8∧(List.range i).all (sv x)=true) (fun (i:Nat)=>8 - i) (0) (⟨bG _,rfl⟩) ?_
           refine ⟨hda,fun i w7 N2 oL=> ?_⟩
           have w7:i ≤ 8∧(List.range i).all (sv x)=true:=w7
           have hypi1:=w7.1
           refine aB ?_ ?_ <;> intro AJ
           ·obtain ⟨s,hs⟩:∃ s,x.ak[i]? = some s:=⟨_,bg (by omega)⟩
            obtain ⟨p,R6⟩:∃ p,x.Out[i]? = some p:=⟨_,bg (by omega)⟩
            refine dM ‹_› ?_
            skip
            refine o_ ?_
            refine iL (eS).k ?_
            refine Tw ?_
            refine aB ?_ ?_ <;> intro D0
            ·refine dM ‹_› ?_
             skip
             refine ah (tY _).k ?_
             refine aB ?_ ?_ <;> intro Pz
             ·refine oL _ _ _ ?_
              exact ay (by rw [sH (i:=i) (by omega) (AN hs R6 (by rcases Decidable.em (s.aN= -1∧s.bf=0) with q6|q6 <;> first|(refine .inl ⟨q6, ?_⟩;assumption)|(refine .inr ⟨q6, ?_⟩;(exfalso;omega))))])
             ·refine cg ?_
              refine oL _ _ _ ?_
              refine hY (i + 1) (⟨by omega,lX w7.2 (yW hs R6 (by rcases Decidable.em (s.aN= -1∧s.bf=0) with q6|q6 <;> first|(refine .inl ⟨q6, ?_⟩;assumption)|(refine .inr ⟨q6, ?_⟩;(exfalso;omega))))⟩)
            ·refine ah (fW _ _).k ?_
             refine aB ?_ ?_ <;> intro Fu
             ·refine oL _ _ _ ?_
              exact ay (by rw [sH (i:=i) (by omega) (AN hs R6 (by rcases Decidable.em (s.aN= -1∧s.bf=0) with q6|q6 <;> first|(refine .inl ⟨q6, ?_⟩;(exfalso;omega))|(refine .inr ⟨q6, ?_⟩;(right;assumption))))])
             ·refine dM ‹_› ?_
              skip
              skip
              refine len ?_
              refine aB ?_ ?_ <;> intro TD
              ·refine oL _ _ _ ?_
               exact ay (by rw [sH (i:=i) (by omega) (AN hs R6 (by rcases Decidable.em (s.aN= -1∧s.bf=0) with q6|q6 <;> first|(refine .inl ⟨q6, ?_⟩;(exfalso;omega))|(refine .inr ⟨q6, ?_⟩;(left;omega))))])
              ·refine cg ?_
               refine oL _ _ _ ?_
               refine hY (i + 1) (⟨by omega,lX w7.2 (yW hs R6 (by rcases Decidable.em (s.aN= -1∧s.bf=0) with q6|q6 <;> first|(refine .inl ⟨q6, ?_⟩;(exfalso;omega))|(refine .inr ⟨q6, ?_⟩;(refine ⟨?_, ?_⟩ <;> omega))))⟩)
           ·refine oL _ _ _ ?_
            exact ay (by rw [G1 hp hga w7.2 (by omega),hme])
end
end Go.Proofs.YtdliggkohdnipaaGreat.T
