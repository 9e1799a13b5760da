import Derived.Test.YtdliggkohdnipaaGreatNhr
set_option linter.unusedVariables false
set_option linter.unusedSimpArgs false
namespace Go.Proofs.YtdliggkohdnipaaGreat.T
open Go
section
variable {p:List Int} {b:List bt} {i k:Nat} {y z:bt} {x:aO} {s:aL}
set_option maxRecDepth 100000
set_option maxHeartbeats 8000000
theorem At (h:xY b i k=true) (hy:b[i]? = some y) (hz:b[k]? = some z) (hn:¬ (y.Tag=z.Tag∧y.aJ=z.aJ)):xY b i (k + 1)=true:=by
 unfold xY at h ⊢
 rw [List.range_succ,List.all_append,h,hy]
 have h2:Up y z=false:=decide_eq_false hn
 simp [hz,h2]
theorem MQ (h:xZ b i=true) (h1:xY b i i=true):xZ b (i + 1)=true:=by
 unfold xZ at h ⊢
 rw [List.range_succ,List.all_append,h]
 simp [h1]
theorem Qu (hi:i < b.length) (hk:k < i) (hy:b[i]? = some y) (hz:b[k]? = some z) (h:y.Tag=z.Tag∧y.aJ=z.aJ):lQ b=false:=by
 have h1:xY b i i=false:=by
  rw [Bool.eq_false_iff]
  intro e
  have h2:=List.all_eq_true.1 e k (List.mem_range.2 hk)
  rw [hy,hz] at h2
  simp [Up,h] at h2
 have h3:xZ b b.length=false:=by
  rw [Bool.eq_false_iff]
  intro e
  have h2:=List.all_eq_true.1 e i (List.mem_range.2 hi)
  rw [h1] at h2
  cases h2
 unfold lQ
 rw [h3]
 rfl
theorem Qv (h:xZ b i=true) (hi:i=b.length):lQ b=decide ((b.length:Int) ≤ 6):=by
 subst hi
 unfold lQ
 rw [h,Bool.true_and,Bool.eq_iff_iff]
 simp
 omega
theorem RT {P:Nat→Bool} {n:Nat} (hk:k < n) (h:P k=false):(List.range n).all P=false:=by
 rw [List.all_eq_false]
 exact ⟨k,List.mem_range.2 hk,by simp [h]⟩
theorem nS {P:Nat→Bool} (h:(List.range k).all P=true) (hp:P k=true):(List.range (k + 1)).all P=true:=by
 rw [List.range_succ,List.all_append,h]
 simp [hp]
theorem yZ (h:ga x=true):x.ai.length=8∧x.Out.length=8∧x.a_.length=8∧x.aa.length ≤ 2∧1 ≤ x.aa.length∧x.Tables.length=x.aa.length:=by
 simp only [ga,Bool.and_eq_true,decide_eq_true_eq,jP] at h
 omega
theorem MR (h1:x.ai[i]? = some s) (h2:x.Out[i]? = some p):qL x i=if s=bu then iM p else decide (p.length=0) && fi s.aT 1:=by unfold qL;rw [h1,h2]
theorem I8 (h1:x.ai[i]? = some s) (h2:x.Out[i]? = some p) (h:s.aJ= -1∧s.aT=0):qL x i=iM p:=by
 rw [MR h1 h2,if_pos]
 obtain ⟨a,b⟩:=s
 simp_all
theorem UE (h1:x.ai[i]? = some s) (h2:x.Out[i]? = some p) (h:¬ (s.aJ= -1∧s.aT=0)):qL x i=(decide (p.length=0) && fi s.aT 1):=by
 rw [MR h1 h2,if_neg]
 rintro rfl
 exact h ⟨rfl,rfl⟩
theorem y3 (h1:x.ai[i]? = some s) (h2:x.Out[i]? = some p) (h:((s.aJ= -1∧s.aT=0)∧iM p=false) ∨ (¬ (s.aJ= -1∧s.aT=0)∧(¬ p.length=0 ∨ fi s.aT 1=false))):qL x i=false:=by
 rcases h with ⟨h,h3⟩|⟨h,h3⟩
 rw [I8 h1 h2 h,h3]
 rw [UE h1 h2 h]
 rcases h3 with h3|h3
 rw [decide_eq_false h3];rfl
 rw [h3,Bool.and_false]
theorem xf (h1:x.ai[i]? = some s) (h2:x.Out[i]? = some p) (h:((s.aJ= -1∧s.aT=0)∧iM p=true) ∨ (¬ (s.aJ= -1∧s.aT=0)∧(p.length=0∧fi s.aT 1=true))):qL x i=true:=by
 rcases h with ⟨h,h3⟩|⟨h,h3⟩
 rw [I8 h1 h2 h,h3]
 rw [UE h1 h2 h,h3.2,decide_eq_true h3.1];rfl
theorem nc (h:(ga x && jv x)=false):eO x=false:=by
 rw [Bool.and_eq_false_iff] at h
 rcases h with h|h <;> simp [eO,h]
theorem vM (h:ga x=false):eO x=false:=by simp [eO,h]
theorem MS (h:x.aa.all bL=false):eO x=false:=by simp [eO,h]
theorem qV (hi:i < 8) (h:qL x i=false):eO x=false:=by simp [eO,RT hi h]
theorem Fo (h1:ga x=true) (h2:x.aa.all bL=true) (h3:(List.range i).all (qL x)=true) (hi:i=8):eO x=jv x:=by subst hi;simp [eO,h1,h2,h3]
theorem uM (b:List bt):aF Tryz.prog 428 [L 4 (b.map aA)] (RV (.bool (lQ b))):=by
 refine aF.w 43 Tryz.func428 fun w g0 hM=> ?_
 have eK:=hM.1.map
 refine cI [0] [] [] (fun (i:Nat)=>[.set 3 (I i)]) (fun (i:Nat)=>[]) (fun (i:Nat)=>(i ≤ b.length)∧(xZ b i=true)) (fun (i:Nat)=>b.length - i) (0) (⟨Nat.zero_le _,rfl⟩) ?_
 refine ⟨hda,fun i hyp N1 bw=> ?_⟩
 have hyp:(i ≤ b.length)∧(xZ b i=true):=hyp
 have MJ:=hyp.1
 refine len ?_
 refine aB ?_ ?_ <;> intro hb
 ·obtain ⟨u,hu⟩:∃ u,b[i]? = some u:=⟨_,List.getElem?_eq_getElem (by omega)⟩
  refine cI [0,3] [] [] (fun (k:Nat)=>[.set 4 (I k)]) (fun (k:Nat)=>[]) (fun (k:Nat)=>k ≤ i∧xY b i k=true) (fun (k:Nat)=>i - k) (0) (⟨Nat.zero_le _,rfl⟩) ?_
  refine ⟨hda,fun k gb N2 oY=> ?_⟩
  have gb:k ≤ i∧xY b i k=true:=gb
  have MT:=gb.1
  refine aB ?_ ?_ <;> intro gY
  ·obtain ⟨z,hz⟩:∃ u,b[k]? = some u:=⟨_,List.getElem?_eq_getElem (by omega)⟩
   refine pM ?_
   refine fN hu ?_
   skip
   refine fN hz ?_
   skip
   refine aB ?_ ?_ <;> intro hg11
   ·refine fN hu ?_
    skip
    refine fN hz ?_
    skip
    refine aB ?_ ?_ <;> intro tY
    ·refine oY _ _ _ ?_
     refine bw _ _ _ ?_
     exact ay (by rw [Qu (i:=i) (k:=k) (by omega) (by omega) hu hz (by omega)])
    ·refine cD ?_
     refine oY _ _ _ ?_
     refine iF (k + 1) (⟨by omega,At gb.2 hu hz (by omega)⟩)
   ·refine cD ?_
    refine oY _ _ _ ?_
    refine iF (k + 1) (⟨by omega,At gb.2 hu hz (by omega)⟩)
  ·refine oY _ _ _ ?_
   refine cD ?_
   refine bw _ _ _ ?_
   refine iF (i + 1) (⟨by omega,MQ hyp.2 (by rw [show k=i by omega] at gb;exact gb.2)⟩)
 ·refine bw _ _ _ ?_
  refine len ?_
  exact ay (by rw [Qv hyp.2 (by omega)])
theorem uN (b:List bt):aF Tryz.prog 118 [L 4 (b.map aA)] (RV (.bool (lQ b))):=by
 refine aF.w 39 Tryz.func118 fun w g0 hM=> ?_
 have eK:=hM.1.map
 refine len ?_
 refine cI [0,7,8] [] [] (fun (i:Nat)=>[.set 9 (I i)]) (fun (i:Nat)=>[]) (fun (i:Nat)=>(i ≤ b.length)∧(xZ b i=true)) (fun (i:Nat)=>b.length - i) (0) (⟨Nat.zero_le _,rfl⟩) ?_
 refine ⟨hda,fun i hyp N1 bw=> ?_⟩
 have hyp:(i ≤ b.length)∧(xZ b i=true):=hyp
 have MJ:=hyp.1
 refine aB ?_ ?_ <;> intro hb
 ·obtain ⟨u,hu⟩:∃ u,b[i]? = some u:=⟨_,List.getElem?_eq_getElem (by omega)⟩
  refine fN hu ?_
  skip
  refine cut 0 i ?_
  refine W3 i ?_ (by show ((b.map aA).take i).length=i;rw [List.length_take,List.length_map];omega)
  refine cI [0,4,7,8,9,16,17] [] [] (fun (k:Nat)=>[.set 18 (I k)]) (fun (k:Nat)=>[]) (fun (k:Nat)=>k ≤ i∧xY b i k=true) (fun (k:Nat)=>i - k) (0) (⟨Nat.zero_le _,rfl⟩) ?_
  refine ⟨hda,fun k gb N2 oY=> ?_⟩
  have gb:k ≤ i∧xY b i k=true:=gb
  have MT:=gb.1
  refine aB ?_ ?_ <;> intro gY
  ·obtain ⟨z,hz⟩:∃ u,b[k]? = some u:=⟨_,List.getElem?_eq_getElem (by omega)⟩
   refine ixd (m:=k) (d:=aA z) (by show ((b.map aA).take i)[k]? = _;rw [List.getElem?_take,if_pos (by omega),List.getElem?_map,hz];rfl) ?_
   skip
   refine aB ?_ ?_ <;> intro OT
   ·refine aB ?_ ?_ <;> intro tY
    ·refine oY _ _ _ ?_
     refine bw _ _ _ ?_
     exact ay (by rw [Qu (i:=i) (k:=k) (by omega) (by omega) hu hz (by omega)])
    ·refine cD ?_
     refine oY _ _ _ ?_
     refine iF (k + 1) (⟨by omega,At gb.2 hu hz (by omega)⟩)
   ·refine cD ?_
    refine oY _ _ _ ?_
    refine iF (k + 1) (⟨by omega,At gb.2 hu hz (by omega)⟩)
  ·refine oY _ _ _ ?_
   refine cD ?_
   refine bw _ _ _ ?_
   refine iF (i + 1) (⟨by omega,MQ hyp.2 (by rw [show k=i by omega] at gb;exact gb.2)⟩)
 ·refine bw _ _ _ ?_
  refine len ?_
  exact ay (by rw [Qv hyp.2 (by omega)])
theorem KB (x:aO):aF Tryz.prog 375 [A (va x)] (RV (.bool (eO x))):=by
 refine aF.w 115 Tryz.func375 fun w g0 hM=> ?_
 have RU:bu.aJ= -1:=rfl
 have RW:bu.aT=0:=rfl
 have eK:=hM.1.2.2.2.1.map
 refine len ?_
 refine ah (aE _ _ _).k ?_
 refine aB ?_ ?_ <;> intro OT
 ·exact ay (by rw [vM (by rw [Bool.eq_false_iff];intro e;simp only [ga,Bool.and_eq_true,decide_eq_true_eq] at e;omega)])
 ·refine len ?_
  refine len ?_
  refine aB ?_ ?_ <;> intro hg14
  ·exact ay (by rw [vM (by rw [Bool.eq_false_iff];intro e;simp only [ga,Bool.and_eq_true,decide_eq_true_eq] at e;omega)])
  ·refine ah (qQ _ _ _).k ?_
   refine aB ?_ ?_ <;> intro hg20
   ·exact ay (by rw [vM (by rw [Bool.eq_false_iff];intro e;simp only [ga,Bool.and_eq_true,decide_eq_true_eq] at e;(simp_all;done))])
   ·refine len ?_
    refine aB ?_ ?_ <;> intro hg26
    ·exact ay (by rw [vM (by rw [Bool.eq_false_iff];intro e;simp only [ga,Bool.and_eq_true,decide_eq_true_eq] at e;omega)])
    ·refine len ?_
     refine aB ?_ ?_ <;> intro hb
     ·exact ay (by rw [vM (by rw [Bool.eq_false_iff];intro e;simp only [ga,Bool.and_eq_true,decide_eq_true_eq] at e;omega)])
     ·have hp:ga x=true:=(by unfold ga;simp only [Bool.and_eq_true,decide_eq_true_eq];refine ⟨⟨⟨⟨?_, ?_⟩, ?_⟩, ?_⟩, ?_⟩ <;> omega)
      have hln:=yZ hp
      refine cI [1] [] [] (fun (i:Nat)=>[.set 3 (I i)]) (fun (i:Nat)=>[]) (fun (i:Nat)=>(i ≤ x.aa.length)∧((x.aa.take i).all bL=true)) (fun (i:Nat)=>x.aa.length - i) (0) (⟨Nat.zero_le _,rfl⟩) ?_
      refine ⟨hda,fun i hyp N1 bw=> ?_⟩
      have hyp:(i ≤ x.aa.length)∧((x.aa.take i).all bL=true):=hyp
      have ha:=kw hyp.2
      refine len ?_
      refine aB ?_ ?_ <;> intro gY
      ·refine rz (fun y48 hy48 qy48 ly48=> ?_)
       skip
       refine ah (vG _).k ?_
       refine aB ?_ ?_ <;> intro tY
       ·refine bw _ _ _ ?_
        exact ay (by rw [MS (ha.1 _ (by assumption) (by assumption))])
       ·refine cD ?_
        refine bw _ _ _ ?_
        refine iF (i + 1) (⟨by omega,iS hyp.2 (by assumption) (by assumption)⟩)
      ·refine bw _ _ _ ?_
       have hga:x.aa.all bL=true:=ha.2 (by omega)
       refine cI [1] [] [] (fun (i:Nat)=>[.set 4 (I i)]) (fun (i:Nat)=>[]) (fun (i:Nat)=>i ≤ 8∧(List.range i).all (qL x)=true) (fun (i:Nat)=>8 - i) (0) (⟨Nat.zero_le _,rfl⟩) ?_
       refine ⟨hda,fun i vb N2 oY=> ?_⟩
       have vb:i ≤ 8∧(List.range i).all (qL x)=true:=vb
       have hypi1:=vb.1
       refine aB ?_ ?_ <;> intro yW
       ·obtain ⟨s,hs⟩:∃ s,x.ai[i]? = some s:=⟨_,List.getElem?_eq_getElem (by omega)⟩
        obtain ⟨p,Qw⟩:∃ p,x.Out[i]? = some p:=⟨_,List.getElem?_eq_getElem (by omega)⟩
        refine pM ?_
        refine fN (by assumption) ?_
        skip
        refine iQ (cW).k ?_
        refine RQ ?_
        refine aB ?_ ?_ <;> intro hg1
        ·refine fN (by assumption) ?_
         skip
         skip
         refine len ?_
         refine aB ?_ ?_ <;> intro hg9
         ·refine oY _ _ _ ?_
          exact ay (by rw [qV (i:=i) (by omega) (y3 hs Qw (by rcases Decidable.em (s.aJ= -1∧s.aT=0) with o_|o_ <;> first|(refine .inl ⟨o_, ?_⟩;(exfalso;omega))|(refine .inr ⟨o_, ?_⟩;(left;omega))))])
         ·refine fN (by assumption) ?_
          skip
          refine ah (kn _ _).k ?_
          refine aB ?_ ?_ <;> intro hg20
          ·refine oY _ _ _ ?_
           exact ay (by rw [qV (i:=i) (by omega) (y3 hs Qw (by rcases Decidable.em (s.aJ= -1∧s.aT=0) with o_|o_ <;> first|(refine .inl ⟨o_, ?_⟩;(exfalso;omega))|(refine .inr ⟨o_, ?_⟩;(right;assumption))))])
          ·refine aB ?_ ?_ <;> intro hg23
           ·refine fN (by assumption) ?_
            skip
            refine ah (oq _).k ?_
            refine aB ?_ ?_ <;> intro CE
            ·refine oY _ _ _ ?_
             exact ay (by rw [qV (i:=i) (by omega) (y3 hs Qw (by rcases Decidable.em (s.aJ= -1∧s.aT=0) with o_|o_ <;> first|(refine .inl ⟨o_, ?_⟩;assumption)|(refine .inr ⟨o_, ?_⟩;(exfalso;omega))))])
            ·refine cD ?_
             refine oY _ _ _ ?_
             refine iF (i + 1) (⟨by omega,nS vb.2 (xf hs Qw (by rcases Decidable.em (s.aJ= -1∧s.aT=0) with o_|o_ <;> first|(refine .inl ⟨o_, ?_⟩;assumption)|(refine .inr ⟨o_, ?_⟩;(exfalso;omega))))⟩)
           ·refine cD ?_
            refine oY _ _ _ ?_
            refine iF (i + 1) (⟨by omega,nS vb.2 (xf hs Qw (by rcases Decidable.em (s.aJ= -1∧s.aT=0) with o_|o_ <;> first|(refine .inl ⟨o_, ?_⟩;(exfalso;omega))|(refine .inr ⟨o_, ?_⟩;(refine ⟨?_, ?_⟩ <;> omega))))⟩)
        ·refine aB ?_ ?_ <;> intro hg23
         ·refine fN (by assumption) ?_
          skip
          refine ah (oq _).k ?_
          refine aB ?_ ?_ <;> intro NX
          ·refine oY _ _ _ ?_
           exact ay (by rw [qV (i:=i) (by omega) (y3 hs Qw (by rcases Decidable.em (s.aJ= -1∧s.aT=0) with o_|o_ <;> first|(refine .inl ⟨o_, ?_⟩;assumption)|(refine .inr ⟨o_, ?_⟩;(exfalso;omega))))])
          ·refine cD ?_
           refine oY _ _ _ ?_
           refine iF (i + 1) (⟨by omega,nS vb.2 (xf hs Qw (by rcases Decidable.em (s.aJ= -1∧s.aT=0) with o_|o_ <;> first|(refine .inl ⟨o_, ?_⟩;assumption)|(refine .inr ⟨o_, ?_⟩;(exfalso;omega))))⟩)
         ·refine cD ?_
          refine oY _ _ _ ?_
          refine iF (i + 1) (⟨by omega,nS vb.2 (xf hs Qw (by rcases Decidable.em (s.aJ= -1∧s.aT=0) with o_|o_ <;> first|(refine .inl ⟨o_, ?_⟩;(exfalso;omega))|(refine .inr ⟨o_, ?_⟩;(exfalso;omega))))⟩)
       ·refine oY _ _ _ ?_
        refine len ?_
        refine aB ?_ ?_ <;> intro Kr
        ·refine ah (lT _).k ?_
         refine aB ?_ ?_ <;> intro hg9
         ·refine ah (aE _ _ _).k ?_
          refine aB ?_ ?_ <;> intro hg14
          ·refine ah (aE _ _ _).k ?_
           exact ay (by rw [Fo hp hga vb.2 (by omega)];refine congrArg Value.bool ?_;unfold jv;(rw [Bool.eq_iff_iff];simp only [Bool.and_eq_true,decide_eq_true_eq];omega))
          ·exact ay (by rw [Fo hp hga vb.2 (by omega)];refine congrArg Value.bool ?_;unfold jv;(symm;rw [Bool.eq_false_iff];intro e;simp only [Bool.and_eq_true,decide_eq_true_eq] at e;omega))
         ·exact ay (by rw [Fo hp hga vb.2 (by omega)];refine congrArg Value.bool ?_;unfold jv;(symm;rw [Bool.eq_false_iff];intro e;simp only [Bool.and_eq_true,decide_eq_true_eq] at e;omega))
        ·exact ay (by rw [Fo hp hga vb.2 (by omega)];refine congrArg Value.bool ?_;unfold jv;(symm;rw [Bool.eq_false_iff];intro e;simp only [Bool.and_eq_true,decide_eq_true_eq] at e;omega))
theorem KC (x:aO):aF Tryz.prog 119 [A (va x)] (RV (.bool (eO x))):=by
 refine aF.w 106 Tryz.func119 fun w g0 hM=> ?_
 have RU:bu.aJ= -1:=rfl
 have RW:bu.aT=0:=rfl
 have eK:=hM.1.2.2.2.1.map
 refine len ?_
 refine ah (aS _ _ _).k ?_
 refine aB ?_ ?_ <;> intro OT
 ·exact ay (by rw [nc (by rw [Bool.eq_false_iff];intro e;simp only [ga,jv,Bool.and_eq_true,decide_eq_true_eq] at e;omega)])
 ·refine len ?_
  refine len ?_
  refine aB ?_ ?_ <;> intro hg14
  ·exact ay (by rw [nc (by rw [Bool.eq_false_iff];intro e;simp only [ga,jv,Bool.and_eq_true,decide_eq_true_eq] at e;omega)])
  ·refine ah (qR _ _ _).k ?_
   refine aB ?_ ?_ <;> intro hg20
   ·exact ay (by rw [nc (by rw [Bool.eq_false_iff];intro e;simp only [ga,jv,Bool.and_eq_true,decide_eq_true_eq] at e;(simp_all;done))])
   ·refine len ?_
    refine aB ?_ ?_ <;> intro hg26
    ·exact ay (by rw [nc (by rw [Bool.eq_false_iff];intro e;simp only [ga,jv,Bool.and_eq_true,decide_eq_true_eq] at e;omega)])
    ·refine len ?_
     refine aB ?_ ?_ <;> intro hg32
     ·exact ay (by rw [nc (by rw [Bool.eq_false_iff];intro e;simp only [ga,jv,Bool.and_eq_true,decide_eq_true_eq] at e;omega)])
     ·refine len ?_
      refine aB ?_ ?_ <;> intro hg38
      ·exact ay (by rw [nc (by rw [Bool.eq_false_iff];intro e;simp only [ga,jv,Bool.and_eq_true,decide_eq_true_eq] at e;omega)])
      ·refine ah (lU _).k ?_
       refine aB ?_ ?_ <;> intro hg44
       ·exact ay (by rw [nc (by rw [Bool.eq_false_iff];intro e;simp only [ga,jv,Bool.and_eq_true,decide_eq_true_eq] at e;omega)])
       ·refine ah (aS _ _ _).k ?_
        refine aB ?_ ?_ <;> intro hg50
        ·exact ay (by rw [nc (by rw [Bool.eq_false_iff];intro e;simp only [ga,jv,Bool.and_eq_true,decide_eq_true_eq] at e;omega)])
        ·refine ah (aS _ _ _).k ?_
         refine aB ?_ ?_ <;> intro hb
         ·exact ay (by rw [nc (by rw [Bool.eq_false_iff];intro e;simp only [ga,jv,Bool.and_eq_true,decide_eq_true_eq] at e;omega)])
         ·have hp:ga x=true:=(by unfold ga;simp only [Bool.and_eq_true,decide_eq_true_eq];refine ⟨⟨⟨⟨?_, ?_⟩, ?_⟩, ?_⟩, ?_⟩ <;> omega)
          have hme:jv x=true:=(by unfold jv;simp only [Bool.and_eq_true,decide_eq_true_eq];refine ⟨⟨⟨?_, ?_⟩, ?_⟩, ?_⟩ <;> omega)
          have hln:=yZ hp
          refine len ?_
          refine cI [1,64,65] [] [] (fun (i:Nat)=>[.set 66 (I i)]) (fun (i:Nat)=>[]) (fun (i:Nat)=>(i ≤ x.aa.length)∧((x.aa.take i).all bL=true)) (fun (i:Nat)=>x.aa.length - i) (0) (⟨Nat.zero_le _,rfl⟩) ?_
          refine ⟨hda,fun i hyp N1 bw=> ?_⟩
          have hyp:(i ≤ x.aa.length)∧((x.aa.take i).all bL=true):=hyp
          have ha:=kw hyp.2
          refine aB ?_ ?_ <;> intro gY
          ·refine rz (fun y68 hy68 qy68 ly68=> ?_)
           skip
           refine ah (vH _).k ?_
           refine aB ?_ ?_ <;> intro tY
           ·refine bw _ _ _ ?_
            exact ay (by rw [MS (ha.1 _ (by assumption) (by assumption))])
           ·refine cD ?_
            refine bw _ _ _ ?_
            refine iF (i + 1) (⟨by omega,iS hyp.2 (by assumption) (by assumption)⟩)
          ·refine bw _ _ _ ?_
           have hga:x.aa.all bL=true:=ha.2 (by omega)
           refine len ?_
           refine cI [1,75,76] [] [] (fun (i:Nat)=>[.set 77 (I i)]) (fun (i:Nat)=>[]) (fun (i:Nat)=>i ≤ 8∧(List.range i).all (qL x)=true) (fun (i:Nat)=>8 - i) (0) (⟨Nat.zero_le _,rfl⟩) ?_
           refine ⟨hda,fun i vb N2 oY=> ?_⟩
           have vb:i ≤ 8∧(List.range i).all (qL x)=true:=vb
           have hypi1:=vb.1
           refine aB ?_ ?_ <;> intro yW
           ·obtain ⟨s,hs⟩:∃ s,x.ai[i]? = some s:=⟨_,List.getElem?_eq_getElem (by omega)⟩
            obtain ⟨p,Qw⟩:∃ p,x.Out[i]? = some p:=⟨_,List.getElem?_eq_getElem (by omega)⟩
            refine fN (by assumption) ?_
            skip
            refine pM ?_
            refine iQ (eM).k ?_
            refine RQ ?_
            refine aB ?_ ?_ <;> intro CE
            ·refine fN (by assumption) ?_
             skip
             refine ah (sr _).k ?_
             refine aB ?_ ?_ <;> intro NX
             ·refine oY _ _ _ ?_
              exact ay (by rw [qV (i:=i) (by omega) (y3 hs Qw (by rcases Decidable.em (s.aJ= -1∧s.aT=0) with o_|o_ <;> first|(refine .inl ⟨o_, ?_⟩;assumption)|(refine .inr ⟨o_, ?_⟩;(exfalso;omega))))])
             ·refine cD ?_
              refine oY _ _ _ ?_
              refine iF (i + 1) (⟨by omega,nS vb.2 (xf hs Qw (by rcases Decidable.em (s.aJ= -1∧s.aT=0) with o_|o_ <;> first|(refine .inl ⟨o_, ?_⟩;assumption)|(refine .inr ⟨o_, ?_⟩;(exfalso;omega))))⟩)
            ·refine ah (fm _ _).k ?_
             refine aB ?_ ?_ <;> intro Kr
             ·refine oY _ _ _ ?_
              exact ay (by rw [qV (i:=i) (by omega) (y3 hs Qw (by rcases Decidable.em (s.aJ= -1∧s.aT=0) with o_|o_ <;> first|(refine .inl ⟨o_, ?_⟩;(exfalso;omega))|(refine .inr ⟨o_, ?_⟩;(right;assumption))))])
             ·refine fN (by assumption) ?_
              skip
              skip
              refine len ?_
              refine aB ?_ ?_ <;> intro RS
              ·refine oY _ _ _ ?_
               exact ay (by rw [qV (i:=i) (by omega) (y3 hs Qw (by rcases Decidable.em (s.aJ= -1∧s.aT=0) with o_|o_ <;> first|(refine .inl ⟨o_, ?_⟩;(exfalso;omega))|(refine .inr ⟨o_, ?_⟩;(left;omega))))])
              ·refine cD ?_
               refine oY _ _ _ ?_
               refine iF (i + 1) (⟨by omega,nS vb.2 (xf hs Qw (by rcases Decidable.em (s.aJ= -1∧s.aT=0) with o_|o_ <;> first|(refine .inl ⟨o_, ?_⟩;(exfalso;omega))|(refine .inr ⟨o_, ?_⟩;(refine ⟨?_, ?_⟩ <;> omega))))⟩)
           ·refine oY _ _ _ ?_
            exact ay (by rw [Fo hp hga vb.2 (by omega),hme])
end
end Go.Proofs.YtdliggkohdnipaaGreat.T
