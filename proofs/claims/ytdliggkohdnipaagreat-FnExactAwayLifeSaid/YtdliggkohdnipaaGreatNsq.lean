import Derived.Test.YtdliggkohdnipaaGreatNnq
set_option linter.unusedVariables false
set_option linter.unusedSimpArgs false
namespace Go.Proofs.YtdliggkohdnipaaGreat.T
open Go
section
variable {o t:Int} {i k:Nat} {u:aS} {s:lF}
set_option maxRecDepth 100000
set_option maxHeartbeats 8000000
theorem TJ {P:Nat→Bool} {n:Nat}:(List.range n).all P=true ↔ ∀ k,k < n→P k=true:=by simp [eY]
def ig (s:lF):Bool:=jX s.ai.length 1 3 && decide (s.bn.length=s.ai.length) && decide (s.Own.length=s.ai.length)
def mK (s:lF) (k:Nat):Bool:=dg (s.ai[k]?.getD L0) && jX (s.bn[k]?.getD 0) 0 3 && jX (s.Own[k]?.getD 0) 0 1000000000
theorem jQ (hu:s.ai[k]? = some u) (ht:s.bn[k]? = some t) (ho:s.Own[k]? = some o):mK s k=(dg u && jX t 0 3 && jX o 0 1000000000):=by
 simp only [mK,hu,ht,ho,Option.getD_some]
theorem rR (h:ig s=false):jH s=false:=by
 unfold ig at h
 unfold jH
 rw [h]
 simp
theorem C2 (h:jH s=true):ig s=true∧∀ k,k < s.ai.length→mK s k=true:=by
 unfold jH at h
 simp only [bh,decide_eq_true_eq] at h
 obtain ⟨⟨⟨⟨⟨h1,h2⟩,h3⟩,h4⟩,h5⟩,h6⟩:=h
 refine ⟨by simp only [ig,bh,decide_eq_true_eq];exact ⟨⟨h1,h2⟩,h3⟩,fun k hk=> ?_⟩
 have e1:s.ai[k]? = some s.ai[k]:=bg hk
 have e2:s.bn[k]? = some (s.bn[k]'(by omega)):=bg (by omega)
 have e3:s.Own[k]? = some (s.Own[k]'(by omega)):=bg (by omega)
 rw [jQ e1 e2 e3,eY.1 h4 _ (aH e1),eY.1 h5 _ (aH e2),eY.1 h6 _ (aH e3)]
 rfl
theorem rS (hk:k < s.ai.length) (h:mK s k=false):jH s=false:=by
 rw [dG]
 intro e
 rw [(C2 e).2 k hk] at h
 cases h
theorem G4 (h:ig s=true) (h2:(List.range i).all (mK s)=true) (hi:s.ai.length ≤ i):jH s=true:=by
 have h2':∀ k,k < s.ai.length→mK s k=true:=fun k hk=>TJ.1 h2 k (by omega)
 simp only [ig,bh,decide_eq_true_eq] at h
 unfold jH
 simp only [bh,decide_eq_true_eq]
 refine ⟨⟨⟨⟨⟨h.1.1,h.1.2⟩,h.2⟩,eY.2 fun x hx=> ?_⟩,eY.2 fun x hx=> ?_⟩,eY.2 fun x hx=> ?_⟩
 obtain ⟨k,hk⟩:=List.getElem?_of_mem hx
 have:=h2' k (aM.1 hk).1
 simp only [mK,hk,Option.getD_some,bh] at this
 exact this.1.1
 obtain ⟨k,hk⟩:=List.getElem?_of_mem hx
 have:=h2' k (by have:=(aM.1 hk).1;omega)
 simp only [mK,hk,Option.getD_some,bh] at this
 exact this.1.2
 obtain ⟨k,hk⟩:=List.getElem?_of_mem hx
 have:=h2' k (by have:=(aM.1 hk).1;omega)
 simp only [mK,hk,Option.getD_some,bh] at this
 exact this.2
theorem G5 (hu:s.ai[i]? = some u) (ht:s.bn[i]? = some t) (ho:s.Own[i]? = some o):mF s (i + 1)=mF s i ++ [lU u t o]:=by
 unfold mF
 rw [List.range_succ,iW]
 simp [hu,ht,ho]
theorem G6 (u:aS) (t o:Int):(lU u t o).Tables=List.replicate u.aa.length mC:=by simp [lU,List.map_const']
def R_ (u:aS) (t o:Int) (k:Nat):aV:={ lU u t o with Tables:=List.replicate k mC }
theorem KI (h:k=u.aa.length):R_ u t o k=lU u t o:=by
 subst h
 unfold R_
 rw [← G6 u t o]
theorem nG (n:Nat) (hn:1 ≤ n∧n ≤ 24:=by omega):aF Tryz.prog 101 [I n] (RL 2 ((gI n).map aT)):=by
 refine aF.w 8 Tryz.func101 fun w g0 _=> ?_
 refine ah (eS).k ?_
 refine ah (sC hn.2).k ?_
 refine bu (zD bE n hn).k ?_
 exact rfl
theorem xU:aF Tryz.prog 204 [I 4] (RG [.a (ia mC)]):=by
 refine aF.w 11 Tryz.func204 fun w g0 _=> ?_
 refine bu (k9 4 (by omega)).k ?_
 refine LU 4 ?_ rfl
 refine mkn ?_
 exact rfl
theorem xV:aF Tryz.prog 87 [I 4] (RG [.a (ia mC)]):=by
 refine aF.w 9 Tryz.func87 fun w g0 _=> ?_
 refine gp [6] [] [] (.quiet 0 0 (.quiet 3 0 (.fa 1 (.fork (.alt 2 (.fa 4 (.quiet 5 0 (.fa 6 .done))) (.alt 4 (.fa 2 (.quiet 5 0 (.fa 6 .done))) .stop)))))) ?_
 repeat' first|exact True.intro|refine And.intro ?_ ?_|(intro _ _)|refine ah (sC (n:=4) (by omega)).k ?_|refine mkn ?_|refine bu (nG 4 (by omega)).k ?_
 all_goals exact rfl
theorem Et (p:List bZ) [Q (ju p)]:aF Tryz.prog 181 [L 2 (p.map i_)] (RG [.a (bK (qF p))]):=by
 refine aF.w 8 Tryz.func181 fun w g0 _=> ?_
 refine bu (wm _).k ?_
 refine bu (nG 4 (by omega)).k ?_
 refine bu (nG 4 (by omega)).k ?_
 exact rfl
theorem Eu (p:List bZ) [Q (ju p)]:aF Tryz.prog 203 [L 2 (p.map i_)] (RG [.a (bK (qF p))]):=by
 refine aF.w 9 Tryz.func203 fun w g0 _=> ?_
 refine cD ?_
 refine bu (k9 4 (by omega)).k ?_
 refine bu (k9 4 (by omega)).k ?_
 exact rfl
theorem p9 (b:aS):aF Tryz.prog 369 [A (bH b)] (RV (.bool (dg b))):=by
 refine aF.w 38 Tryz.func369 fun w g0 hM=> ?_
 have eW:=hM.1.2.1.map
 have F3:=hM.1.2.2.1.map
 refine ck [1] [] [] (fun (i:Nat)=>[.set 3 (I i)]) (fun (i:Nat)=>[]) (fun (i:Nat)=>(i ≤ b.aa.length)∧((b.aa.take i).all bT=true)) (fun (i:Nat)=>b.aa.length - i) (0) (⟨bG _,rfl⟩) ?_
 refine ⟨hda,fun i hyp N1 bq=> ?_⟩
 have hyp:(i ≤ b.aa.length)∧((b.aa.take i).all bT=true):=hyp
 have ha:=lI hyp.2
 refine len ?_
 refine aB ?_ ?_ <;> intro hb
 ·refine s6 (fun y14 YP YQ YR=> ?_)
  skip
  refine ah (xK _).k ?_
  refine aB ?_ ?_ <;> intro iz
  ·refine bq _ _ _ ?_
   exact ay (by unfold dg;rw [ha.1 _ ‹_› ‹_›];rfl)
  ·refine cg ?_
   refine bq _ _ _ ?_
   refine hY (i + 1) (⟨by omega,jD hyp.2 ‹_› ‹_›⟩)
 ·refine bq _ _ _ ?_
  refine ah (BJ _ _).k ?_
  refine aB ?_ ?_ <;> intro gK
  ·refine len ?_
   refine ah (aE _ _ _).k ?_
   refine aB ?_ ?_ <;> intro hg9
   ·refine len ?_
    refine aB ?_ ?_ <;> intro Ev
    ·refine ah (nl _).k ?_
     exact ay (by unfold dg;rw [ha.2 (by omega)];refine congrArg Value.bool ?_;rw [dX];simp [*];omega)
    ·exact ay (by unfold dg;rw [ha.2 (by omega)];refine congrArg Value.bool ?_;rw [dX];simp [*];omega)
   ·exact ay (by unfold dg;rw [ha.2 (by omega)];simp [*];done)
  ·exact ay (by unfold dg;rw [ha.2 (by omega)];simp [*];done)
theorem jR (b:aS):aF Tryz.prog 79 [A (bH b)] (RV (.bool (dg b))):=by
 refine aF.w 36 Tryz.func79 fun w g0 hM=> ?_
 have eW:=hM.1.2.1.map
 have F3:=hM.1.2.2.1.map
 refine len ?_
 refine ck [1,6,7] [] [] (fun (i:Nat)=>[.set 8 (I i)]) (fun (i:Nat)=>[]) (fun (i:Nat)=>(i ≤ b.aa.length)∧((b.aa.take i).all bT=true)) (fun (i:Nat)=>b.aa.length - i) (0) (⟨bG _,rfl⟩) ?_
 refine ⟨hda,fun i hyp N1 bq=> ?_⟩
 have hyp:(i ≤ b.aa.length)∧((b.aa.take i).all bT=true):=hyp
 have ha:=lI hyp.2
 refine aB ?_ ?_ <;> intro hb
 ·refine s6 (fun y10 hy10 qy10 ly10=> ?_)
  skip
  refine ah (xL _).k ?_
  refine aB ?_ ?_ <;> intro iz
  ·refine bq _ _ _ ?_
   exact ay (by unfold dg;rw [ha.1 _ ‹_› ‹_›];rfl)
  ·refine cg ?_
   refine bq _ _ _ ?_
   refine hY (i + 1) (⟨by omega,jD hyp.2 ‹_› ‹_›⟩)
 ·refine bq _ _ _ ?_
  refine ah (BK _ _).k ?_
  refine aB ?_ ?_ <;> intro gK
  ·refine len ?_
   refine ah (aU _ _ _).k ?_
   refine aB ?_ ?_ <;> intro hg9
   ·refine len ?_
    refine aB ?_ ?_ <;> intro Ev
    ·refine ah (nq _).k ?_
     exact ay (by unfold dg;rw [ha.2 (by omega)];refine congrArg Value.bool ?_;rw [dX];simp [*];omega)
    ·exact ay (by unfold dg;rw [ha.2 (by omega)];refine congrArg Value.bool ?_;rw [dX];simp [*];omega)
   ·exact ay (by unfold dg;rw [ha.2 (by omega)];simp [*];done)
  ·exact ay (by unfold dg;rw [ha.2 (by omega)];simp [*];done)
theorem G7 (s:lF):aF Tryz.prog 241 [A (xy s)] (RV (.bool (jH s))):=by
 refine aF.w 59 Tryz.func241 fun w g0 hM=> ?_
 have eW:=hM.1.1.map
 have F3:=hM.1.2.2.1.map
 have Y2:=hM.1.2.1.map
 refine len ?_
 refine ah (aE _ _ _).k ?_
 refine aB ?_ ?_ <;> intro Py
 ·exact ay (by rw [rR (by rw [dG];intro e;simp only [ig,bh,decide_eq_true_eq] at e;omega)])
 ·refine len ?_
  refine len ?_
  refine aB ?_ ?_ <;> intro Y0
  ·exact ay (by rw [rR (by rw [dG];intro e;simp only [ig,bh,decide_eq_true_eq] at e;omega)])
  ·refine len ?_
   refine len ?_
   refine aB ?_ ?_ <;> intro hb
   ·exact ay (by rw [rR (by rw [dG];intro e;simp only [ig,bh,decide_eq_true_eq] at e;omega)])
   ·have hpre:ig s=true:=(by unfold ig;simp only [bh,decide_eq_true_eq];refine ⟨⟨?_, ?_⟩, ?_⟩ <;> omega)
    have oQ:s.bn.length=s.ai.length∧s.Own.length=s.ai.length:=(by omega)
    refine ck [1] [] [] (fun (i:Nat)=>[.set 3 (I i)]) (fun (i:Nat)=>[]) (fun (i:Nat)=>(i ≤ s.ai.length)∧((List.range i).all (mK s)=true)) (fun (i:Nat)=>s.ai.length - i) (0) (⟨bG _,rfl⟩) ?_
    refine ⟨hda,fun i hyp N1 bq=> ?_⟩
    have hyp:(i ≤ s.ai.length)∧((List.range i).all (mK s)=true):=hyp
    refine len ?_
    refine aB ?_ ?_ <;> intro iz
    ·obtain ⟨u,hu⟩:∃ u,s.ai[i]? = some u:=⟨_,bg (by omega)⟩
     obtain ⟨t,ht⟩:∃ t,s.bn[i]? = some t:=⟨_,bg (by omega)⟩
     obtain ⟨o,ho⟩:∃ o,s.Own[i]? = some o:=⟨_,bg (by omega)⟩
     refine dM hu ?_
     skip
     refine ah (p9 _).k ?_
     refine aB ?_ ?_ <;> intro GO
     ·refine bq _ _ _ ?_
      exact ay (by rw [rS (k:=i) (by omega) (by rw [jQ hu ht ho,dG];intro e;simp only [bh,decide_eq_true_eq] at e;(simp_all;done))])
     ·refine dM ht ?_
      skip
      refine ah (aE _ _ _).k ?_
      refine aB ?_ ?_ <;> intro hg16
      ·refine bq _ _ _ ?_
       exact ay (by rw [rS (k:=i) (by omega) (by rw [jQ hu ht ho,dG];intro e;simp only [bh,decide_eq_true_eq] at e;omega)])
      ·refine dM ho ?_
       skip
       refine ah (aE _ _ _).k ?_
       refine aB ?_ ?_ <;> intro tr
       ·refine bq _ _ _ ?_
        exact ay (by rw [rS (k:=i) (by omega) (by rw [jQ hu ht ho,dG];intro e;simp only [bh,decide_eq_true_eq] at e;omega)])
       ·refine cg ?_
        refine bq _ _ _ ?_
        refine hY (i + 1) (⟨by omega,lX hyp.2 (by rw [jQ hu ht ho];simp only [bh,decide_eq_true_eq];refine ⟨⟨?_, ?_⟩, ?_⟩ <;> assumption)⟩)
    ·refine bq _ _ _ ?_
     exact ay (by rw [G4 hpre hyp.2 (by omega)])
theorem G8 (s:lF):aF Tryz.prog 19 [A (xy s)] (RV (.bool (jH s))):=by
 refine aF.w 56 Tryz.func19 fun w g0 hM=> ?_
 have eW:=hM.1.1.map
 have F3:=hM.1.2.2.1.map
 have Y2:=hM.1.2.1.map
 refine len ?_
 refine ah (aU _ _ _).k ?_
 refine aB ?_ ?_ <;> intro gK
 ·exact ay (by rw [rR (by rw [dG];intro e;simp only [ig,bh,decide_eq_true_eq] at e;omega)])
 ·refine len ?_
  refine aB ?_ ?_ <;> intro TB
  ·exact ay (by rw [rR (by rw [dG];intro e;simp only [ig,bh,decide_eq_true_eq] at e;omega)])
  ·refine len ?_
   refine aB ?_ ?_ <;> intro hb
   ·exact ay (by rw [rR (by rw [dG];intro e;simp only [ig,bh,decide_eq_true_eq] at e;omega)])
   ·have hpre:ig s=true:=(by unfold ig;simp only [bh,decide_eq_true_eq];refine ⟨⟨?_, ?_⟩, ?_⟩ <;> omega)
    have oQ:s.bn.length=s.ai.length∧s.Own.length=s.ai.length:=(by omega)
    refine len ?_
    refine ck [1,27,28] [] [] (fun (i:Nat)=>[.set 29 (I i)]) (fun (i:Nat)=>[]) (fun (i:Nat)=>(i ≤ s.ai.length)∧((List.range i).all (mK s)=true)) (fun (i:Nat)=>s.ai.length - i) (0) (⟨bG _,rfl⟩) ?_
    refine ⟨hda,fun i hyp N1 bq=> ?_⟩
    have hyp:(i ≤ s.ai.length)∧((List.range i).all (mK s)=true):=hyp
    refine aB ?_ ?_ <;> intro iz
    ·obtain ⟨u,hu⟩:∃ u,s.ai[i]? = some u:=⟨_,bg (by omega)⟩
     obtain ⟨t,ht⟩:∃ t,s.bn[i]? = some t:=⟨_,bg (by omega)⟩
     obtain ⟨o,ho⟩:∃ o,s.Own[i]? = some o:=⟨_,bg (by omega)⟩
     refine dM hu ?_
     skip
     refine ah (jR _).k ?_
     refine aB ?_ ?_ <;> intro gK
     ·refine bq _ _ _ ?_
      exact ay (by rw [rS (k:=i) (by omega) (by rw [jQ hu ht ho,dG];intro e;simp only [bh,decide_eq_true_eq] at e;(simp_all;done))])
     ·refine dM ht ?_
      skip
      refine ah (aU _ _ _).k ?_
      refine aB ?_ ?_ <;> intro Y3
      ·refine bq _ _ _ ?_
       exact ay (by rw [rS (k:=i) (by omega) (by rw [jQ hu ht ho,dG];intro e;simp only [bh,decide_eq_true_eq] at e;omega)])
      ·refine dM ho ?_
       skip
       refine ah (aU _ _ _).k ?_
       refine aB ?_ ?_ <;> intro tr
       ·refine bq _ _ _ ?_
        exact ay (by rw [rS (k:=i) (by omega) (by rw [jQ hu ht ho,dG];intro e;simp only [bh,decide_eq_true_eq] at e;omega)])
       ·refine cg ?_
        refine bq _ _ _ ?_
        refine hY (i + 1) (⟨by omega,lX hyp.2 (by rw [jQ hu ht ho];simp only [bh,decide_eq_true_eq];refine ⟨⟨?_, ?_⟩, ?_⟩ <;> assumption)⟩)
    ·refine bq _ _ _ ?_
     exact ay (by rw [G4 hpre hyp.2 (by omega)])
end
set_option maxRecDepth 100000
set_option maxHeartbeats 8000000
theorem aF.nilArg {P:Program} {f:FuncId} {R:nQ→Prop} {z z':Nat} (h:aF P f [.one (.c (.ro (.sl z [])))] R):aF P f [.one (.c (.ro (.sl z' [])))] R:=fun w g args k hg hs ha=>h w g args k hg hs fun i t u hi hu=>by
 cases i with
 | succ i=>simp at hi
 | zero=>
  simp only [List.getElem?_cons_zero,ea] at hi
  subst hi
  have h1:=ha 0 _ u rfl hu
  cases h1 with
  | one _ _ h1=>
   cases h1 with
   | c _ _ h1=>
    have h2:Ro w g.o (.sl z' []) u:=h1
    refine .one _ _ (.c _ _ ?_)
    show Ro w g.o (.sl z []) u
    cases h2 with
    | nil _ ad c=>exact .nil z ad c
    | sl _ _ b off n c us hn=>simp only [List.length_nil] at hn;subst hn;exact .nil z _ c
def Sa (ps:List (List bZ)) (i:Nat):aV:=⟨gI 8,jc 8,List.replicate 8 false,(ps.take i).map qF,[],0,0,List.replicate i mC,0⟩
theorem KJ {ps:List (List bZ)} {i:Nat} (h:i=min ps.length 2):Sa ps i=pn ps:=by
 have e:ps.take i=ps.take 2:=by
  subst h
  rcases Nat.le_total ps.length 2 with h|h
  rw [Nat.min_eq_left h,fu (gL _),fu h]
  rw [Nat.min_eq_right h]
 unfold Sa pn
 rw [e]
 congr 1
 rw [List.map_const',e_,h,Nat.min_comm]
theorem Ab (ps:List (List bZ)) [Q (kK ps)]:aF Tryz.prog 83 [L 1 (ps.map h_)] (RG [.a (vv (pn ps))]):=by
 refine aF.w 35 Tryz.func83 fun w g0 hM=> ?_
 have eW:=hM.1.map
 refine xP [5] [] [] (.fork (.alt 0 (.fork (.alt 1 (.fork (.alt 2 (.fork (.alt 3 (.fa 4 (.fa 5 .done)) (.alt 4 (.fa 3 (.fa 5 .done)) .stop))) (.alt 4 (.fa 2 (.fa 3 (.fa 5 .done))) .stop))) (.alt 2 (.fork (.alt 1 (.fork (.alt 3 (.fa 4 (.fa 5 .done)) (.alt 4 (.fa 3 (.fa 5 .done)) .stop))) (.alt 4 (.fa 1 (.fa 3 (.fa 5 .done))) .stop))) (.alt 4 (.fork (.alt 1 (.fa 2 (.fa 3 (.fa 5 .done))) (.alt 2 (.fa 1 (.fa 3 (.fa 5 .done))) .stop))) .stop)))) (.alt 2 (.fork (.alt 0 (.fork (.alt 1 (.fork (.alt 3 (.fa 4 (.fa 5 .done)) (.alt 4 (.fa 3 (.fa 5 .done)) .stop))) (.alt 4 (.fa 1 (.fa 3 (.fa 5 .done))) .stop))) (.alt 4 (.fa 0 (.fa 1 (.fa 3 (.fa 5 .done)))) .stop))) (.alt 4 (.fork (.alt 0 (.fork (.alt 1 (.fa 2 (.fa 3 (.fa 5 .done))) (.alt 2 (.fa 1 (.fa 3 (.fa 5 .done))) .stop))) (.alt 2 (.fa 0 (.fa 1 (.fa 3 (.fa 5 .done)))) .stop))) .stop)))) [0,2] [] [3] [.set 3 (.one (.ptr ⟨3,[],0⟩))] [(3,⟨true,[.own (.sl 2 ((gI 8).map aT)), .own (.sl 1 ((jc 8).map aP)), .own (.sl 1 ((List.replicate 8 false).map bO)), .own (.sl 15 ([])), .own (.sl 1 []), .own (.v (.int .i64 0)), .own (.v (.int .i64 0)), .own (.sl 2 ([])), .own (.v (.int .i64 0))]⟩)] ?_
 refine ⟨?_, ?_⟩
 ·repeat' first|exact True.intro|refine And.intro ?_ ?_|(intro _ _)|refine bu (nG 8 (by omega)).k ?_|refine bu (t_ 8 (by omega)).k ?_|refine Tv 8 ?_|exact rfl
 refine len ?_
 refine cut 0 (min ps.length 2) ?_ rfl (by split <;> omega) (by omega) (by simp;omega)
 refine LU (min ps.length 2) ?_ (by show ((ps.map h_).take (min ps.length 2)).length=_;rw [e_,aI];omega)
 refine ck [2,3,14,15] [] [3] (fun (i:Nat)=>[.set 16 (I i)]) (fun (i:Nat)=>[(3,⟨true,[.own (.sl 2 ((gI 8).map aT)), .own (.sl 1 ((jc 8).map aP)), .own (.sl 1 ((List.replicate 8 false).map bO)), .own (.sl 15 (((ps.take i).map qF).map bp)), .own (.sl 1 []), .own (.v (.int .i64 0)), .own (.v (.int .i64 0)), .own (.sl 2 ((List.replicate i mC).map cz)), .own (.v (.int .i64 0))]⟩)]) (fun (i:Nat)=>i ≤ 2∧i ≤ ps.length) (fun (i:Nat)=>2 - i) (0) (⟨by omega,by omega⟩) ?_
 refine ⟨hda,fun i hyp N1 bq=> ?_⟩
 have hyp:i ≤ 2∧i ≤ ps.length:=hyp
 have Es:=hyp.1
 have hyp2:=hyp.2
 refine aB ?_ ?_ <;> intro hb
 ·obtain ⟨p,hp⟩:∃ p,ps[i]? = some p:=⟨_,bg (by omega)⟩
  have qp:Q (ju p):=⟨jW.h p (aH hp)⟩
  refine ixd (m:=i) (d:=h_ p) (by show ((ps.map h_).take (min ps.length 2))[i]? = _;rw [List.getElem?_take,if_pos (by omega),ec,hp];rfl) ?_
  first|refine cJ ?_|refine aL ‹_› ?_|refine sn (fun z1 XP XQ XR=> ?_)|skip
  refine cI [5,7] [(0,0),(1,0),(2,0),(3,1),(4,1),(5,1),(6,0),(7,1)] ?_
  refine an (Et _).k ?_
  refine lH ?_
  refine cI [4,6] [(0,0),(1,0),(2,1),(3,1),(4,1),(5,0),(6,1)] ?_
  refine an (xV).k ?_
  refine lH ?_
  refine cg ?_
  refine bq _ _ _ ?_
  refine hY (i + 1) (⟨by omega,by omega⟩) (by repeat' first|exact rfl|constructor|(refine dL ?_;simp [fX,cS,c_,List.replicate_succ',fX,hp, *];done))
 ·refine bq _ _ _ ?_
  exact (by rw [show vv (pn ps)=vv (Sa ps i) from congrArg vv (KJ (by omega)).symm];rfl)
section
variable {m n:Int} {h:ap} {x:aV}
set_option maxRecDepth 100000
set_option maxHeartbeats 8000000
theorem C3 (hm:¬ (0 ≤ m∧m < h.ai.length)):lS h m=none:=q4 hm
theorem G9 (h0:0 ≤ m) (hx:h.ai[m.toNat]? = some x):lS h m=some x:=qH h0 hx
theorem vD (hm:¬ (0 ≤ m∧m < h.ai.length) ∨ ¬ (0 ≤ n∧n ≤ 7)):nT h m n=[0,0,0,0]:=by
 unfold nT
 by_cases h1:0 ≤ m∧m < h.ai.length
 have h2:¬ (0 ≤ n∧n ≤ 7):=hm.resolve_left (fun h=>h h1)
 cases lS h m with
 | none=>rfl
 | some x=>simp only [if_neg h2]
 rw [C3 h1]
theorem KK (h0:0 ≤ m) (hx:h.ai[m.toNat]? = some x) (hn:0 ≤ n∧n ≤ 7):nT h m n=if (fB x.ak n).aN ≠ -1 then eZ h.au (fB x.ak n).aN else eZ x.Out n:=by
 unfold nT
 rw [G9 h0 hx]
 simp only [if_pos hn]
theorem KL (h0:0 ≤ m) (hx:h.ai[m.toNat]? = some x) (hn:0 ≤ n∧n ≤ 7) (hp:¬ (fB x.ak n).aN= -1):nT h m n=eZ h.au (fB x.ak n).aN:=by rw [KK h0 hx hn,if_pos hp]
theorem G_ (h0:0 ≤ m) (hx:h.ai[m.toNat]? = some x) (hn:0 ≤ n∧n ≤ 7) (hp:(fB x.ak n).aN= -1):nT h m n=eZ x.Out n:=by rw [KK h0 hx hn,if_neg (by simpa using hp)]
abbrev e9 (h:ap) (m:Int):aV:=(lS h m).getD V9
theorem Me (h:ap) (m:Int) [Q (aj h)]:aF Tryz.prog 114 [A (aq h),I m] (RG [.a (vv (e9 h m)), .c (.v (.bool (lS h m).isSome))]):=by
 refine aF.w 20 Tryz.func114 fun w g0 hM=> ?_
 have eW:=hM.1.2.1.map
 refine len ?_
 refine cg ?_
 refine ah (aE _ _ _).k ?_
 refine aB ?_ ?_ <;> intro hb
 ·exact (by rw [e9,C3 (by omega)];rfl)
 ·refine xw (fun y17 hy17 qy17 ly17=> ?_)
  skip
  refine an (Aa _).k ?_
  exact (by rw [e9,G9 (by omega) ‹_›];rfl)
theorem rH (h:ap) (m:Int) [Q (aj h)]:aF Tryz.prog 100 [A (aq h),I m] (RG [.a (vv (e9 h m)), .c (.v (.bool (lS h m).isSome))]):=by
 refine aF.w 19 Tryz.func100 fun w g0 hM=> ?_
 have eW:=hM.1.2.1.map
 refine len ?_
 refine ah (bM _ _).k ?_
 refine aB ?_ ?_ <;> intro hb
 ·exact (by rw [e9,C3 (by omega)];rfl)
 ·refine xw (fun y16 Qs Qt Qu=> ?_)
  skip
  refine an (xT _).k ?_
  exact (by rw [e9,G9 (by omega) ‹_›];rfl)
theorem Ji (h:ap) (m:Int) (n:Int) [Q (aj h)]:aF Tryz.prog 115 [A (aq h),I m,I n] (RL 1 ((nT h m n).map bS)):=by
 refine aF.w 43 Tryz.func115 fun w g0 hM=> ?_
 have eW:=hM.1.2.1.map
 refine len ?_
 refine cg ?_
 refine ah (aE _ _ _).k ?_
 refine aB ?_ ?_ <;> intro GO
 ·refine Tv 4 ?_
  exact (by rw [vD (by left;omega)];rfl)
 ·refine ah (aE _ _ _).k ?_
  refine aB ?_ ?_ <;> intro hb
  ·refine Tv 4 ?_
   exact (by (rw [vD (by right;omega)];rfl))
  ·refine xw (fun y25 hy25 qy25 ly25=> ?_)
   skip
   refine ah (pX _ _).k ?_
   refine aB ?_ ?_ <;> intro iz
   ·refine bu (p5 _ _).k ?_
    exact (by rw [KL (by omega) ‹_› (by omega) ‹_›];rfl)
   ·refine bu (p5 _ _).k ?_
    exact (by rw [G_ (by omega) ‹_› (by omega) (by omega)];rfl)
theorem Jj (h:ap) (m:Int) (n:Int) [Q (aj h)]:aF Tryz.prog 98 [A (aq h),I m,I n] (RL 1 ((nT h m n).map bS)):=by
 refine aF.w 42 Tryz.func98 fun w g0 hM=> ?_
 have eW:=hM.1.2.1.map
 refine len ?_
 refine ah (bM _ _).k ?_
 refine aB ?_ ?_ <;> intro YO
 ·refine Tv 4 ?_
  exact (by rw [vD (by left;omega)];rfl)
 ·refine ah (bM _ _).k ?_
  refine aB ?_ ?_ <;> intro hb
  ·refine Tv 4 ?_
   exact (by (rw [vD (by right;omega)];rfl))
  ·refine xw (fun y24 hy24 qy24 ly24=> ?_)
   skip
   refine ah (pY _ _).k ?_
   refine aB ?_ ?_ <;> intro iz
   ·refine bu (tZ _ _).k ?_
    exact (by rw [KL (by omega) ‹_› (by omega) ‹_›];rfl)
   ·refine bu (tZ _ _).k ?_
    exact (by rw [G_ (by omega) ‹_› (by omega) (by omega)];rfl)
end
end Go.Proofs.YtdliggkohdnipaaGreat.T
