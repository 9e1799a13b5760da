import Derived.Test.YtdliggkohdnipaaGreatNcr
set_option linter.unusedVariables false
set_option linter.unusedSimpArgs false
namespace Go.Proofs.YtdliggkohdnipaaGreat.T
open Go
section
variable {n:Int} {p:List iK}
set_option maxRecDepth 100000
set_option maxHeartbeats 1000000
theorem MH {y:iK} (h:0 ≤ n) (hy:p[n.toNat]? = some y):cM p n=y:=by unfold cM;rw [oL h hy];rfl
theorem I5 (h:¬ (0 ≤ n∧n < p.length)):cM p n=⟨7,0⟩:=by unfold cM;rw [nR h];rfl
theorem o9 (m:List (List Int)) (p:Int) (c:Int) (v:Int) [Q (dY m)]:aF Tryz.prog 354 [L 1 (m.map aN),I p,I c,I v] (RL 1 ((ec m p c v).map aN)):=by
 refine aF.w 28 Tryz.func354 fun w g0 hM=> ?_
 have eK:=hM.1.map
 refine bk (kI _).k ?_
 refine ah (yc _ _ _).k ?_
 refine aB ?_ ?_ <;> intro Kr
 refine ah (aE _ _ _).k ?_
 refine aB ?_ ?_ <;> intro hb
 obtain ⟨r,OP,hr,Og,hc0,xF⟩:=CD (by assumption)
 have Wf:=(List.getElem?_eq_some_iff.1 hr).1
 refine aZ ?_
 refine aI (by assumption) ?_
 refine aI (by assumption) ?_
 refine aZ ?_
 refine aI (by assumption) ?_
 refine rA (fun z4 hz4 qz4 lz4=> ?_)
 exact (by rw [Ao (by omega) (by assumption) (by omega) (by omega)];simp only [List.map_set,aN];rfl)
 exact (by (rw [oN (by exact .inr (by omega))];rfl))
 exact (by rw [oN (by exact .inl (by assumption))];rfl)
theorem gS (m:List (List Int)) (p:Int) (c:Int) (v:Int) [Q (dY m)]:aF Tryz.prog 264 [L 1 (m.map aN),I p,I c,I v] (RL 1 ((ec m p c v).map aN)):=by
 refine aF.w 37 Tryz.func264 fun w g0 hM=> ?_
 have eK:=hM.1.map
 refine bk (kJ _).k ?_
 refine len ?_
 refine ah (bA _ _).k ?_
 refine aB ?_ ?_ <;> intro Kr
 ·refine xN (fun y20 hy20 qy20 ly20=> ?_)
  skip
  skip
  refine len ?_
  refine ah (bA _ _).k ?_
  refine aB ?_ ?_ <;> intro Us
  ·refine ah (aS _ _ _).k ?_
   refine aB ?_ ?_ <;> intro hb
   ·refine aZ ?_
    refine aI (by assumption) ?_
    refine aI (by assumption) ?_
    refine aZ ?_
    refine aI (by assumption) ?_
    refine rA (fun z6 hz6 qz6 lz6=> ?_)
    exact (by rw [Ao (by omega) (by assumption) (by omega) (by omega)];simp only [List.map_set,aN];rfl)
   ·exact (by (rw [oN (by exact .inr (by omega))];rfl))
  ·exact (by (rw [oN (by refine .inl ?_;rw [yT (by omega) (by assumption)];exact decide_eq_false (by omega))];rfl))
 ·exact (by (rw [oN (by exact .inl (yS (by omega)))];rfl))
theorem mh (m:List (List Int)) (p:Int) (x:List Int) [Q (dY m)] [Q (c4 x)]:aF Tryz.prog 486 [L 1 (m.map aN),I p,L 1 (x.map bH)] (RL 1 ((eW m p x).map aN)):=by
 refine aF.w 26 Tryz.func486 fun w g0 hM=> ?_
 have eK:=hM.1.map
 refine bk (kI _).k ?_
 refine len ?_
 refine cD ?_
 refine ah (aE _ _ _).k ?_
 refine aB ?_ ?_ <;> intro OT
 refine ah (oq _).k ?_
 refine aB ?_ ?_ <;> intro hb
 refine cB ?_
 refine aZ ?_
 refine rA (fun z1 Xc Xd Xe=> ?_)
 exact (by rw [Ap (by omega) (by assumption)];simp only [List.map_set,aN];rfl)
 exact (by (rw [rN (by exact .inr (by assumption))];rfl))
 exact (by rw [rN (by exact .inl (by omega))];rfl)
theorem uJ (m:List (List Int)) (p:Int) (x:List Int) [Q (dY m)] [Q (c4 x)]:aF Tryz.prog 412 [L 1 (m.map aN),I p,L 1 (x.map bH)] (RL 1 ((eW m p x).map aN)):=by
 refine aF.w 24 Tryz.func412 fun w g0 hM=> ?_
 have eK:=hM.1.map
 refine bk (kJ _).k ?_
 refine len ?_
 refine ah (bA _ _).k ?_
 refine aB ?_ ?_ <;> intro Kr
 refine ah (sr _).k ?_
 refine aB ?_ ?_ <;> intro hb
 refine bk (iN _).k ?_
 refine aZ ?_
 refine rA (fun z1 Xc Xd Xe=> ?_)
 exact (by rw [Ap (by omega) (by assumption)];simp only [List.map_set,aN];rfl)
 exact (by (rw [rN (by exact .inr (by assumption))];rfl))
 exact (by rw [rN (by exact .inl (by omega))];rfl)
theorem kZ (p:List iK) (n:Int):aF Tryz.prog 435 [L 2 (p.map jt),I n] (RP (A (E3 (cM p n)))):=by
 refine aF.w 16 Tryz.func435 fun w g0 hM=> ?_
 have eK:=hM.1.map
 refine len ?_
 refine cD ?_
 refine ah (aE _ _ _).k ?_
 refine aB ?_ ?_ <;> intro hb
 ·exact (by rw [I5 (by omega)];rfl)
 ·refine xN (fun y14 W_ Xa Xb=> ?_)
  skip
  exact (by rw [MH (by omega) (by assumption)];rfl)
theorem jU (p:List iK) (n:Int):aF Tryz.prog 379 [L 2 (p.map jt),I n] (RP (A (E3 (cM p n)))):=by
 refine aF.w 15 Tryz.func379 fun w g0 hM=> ?_
 have eK:=hM.1.map
 refine len ?_
 refine ah (bA _ _).k ?_
 refine aB ?_ ?_ <;> intro hb
 ·exact (by rw [I5 (by omega)];rfl)
 ·refine xN (fun y13 Z9 Z_ aaa=> ?_)
  skip
  exact (by rw [MH (by omega) (by assumption)];rfl)
theorem Ks (x:iK):aF Tryz.prog 502 [A (E3 x)] (RV (.bool (jJ x))):=by
 refine aF.w 29 Tryz.func502 fun w g0 _=> ?_
 refine aB ?_ ?_ <;> intro hb
 refine ah (aE _ _ _).k ?_
 exact ay (by cases x;(simp_all [jJ];done))
 refine aB ?_ ?_ <;> intro gY
 refine ah (aE _ _ _).k ?_
 exact ay (by cases x;(simp_all [jJ];done))
 refine aB ?_ ?_ <;> intro tY
 refine ah (aE _ _ _).k ?_
 exact ay (by cases x;(simp_all [jJ];done))
 refine aB ?_ ?_ <;> intro yW
 refine ah (aE _ _ _).k ?_
 exact ay (by cases x;(simp_all [jJ];done))
 refine aB ?_ ?_ <;> intro CE
 refine ah (aE _ _ _).k ?_
 exact ay (by cases x;(simp_all [jJ];done))
 refine aB ?_ ?_ <;> intro NX
 refine ah (aE _ _ _).k ?_
 exact ay (by cases x;(simp_all [jJ];done))
 refine aB ?_ ?_ <;> intro RS
 exact ay (by cases x;(simp_all [jJ] <;> rfl))
 refine aB ?_ ?_ <;> intro Xf
 refine ah (aE _ _ _).k ?_
 exact ay (by cases x;(simp_all [jJ];done))
 exact ay (by cases x;(simp_all [jJ];done))
theorem Kt (x:iK):aF Tryz.prog 414 [A (E3 x)] (RV (.bool (jJ x))):=by
 refine aF.w 29 Tryz.func414 fun w g0 _=> ?_
 refine aB ?_ ?_ <;> intro hb
 refine ah (aS _ _ _).k ?_
 exact ay (by cases x;(simp_all [jJ];done))
 refine aB ?_ ?_ <;> intro gY
 refine ah (aS _ _ _).k ?_
 exact ay (by cases x;(simp_all [jJ];done))
 refine aB ?_ ?_ <;> intro tY
 refine ah (aS _ _ _).k ?_
 exact ay (by cases x;(simp_all [jJ];done))
 refine aB ?_ ?_ <;> intro yW
 refine ah (aS _ _ _).k ?_
 exact ay (by cases x;(simp_all [jJ];done))
 refine aB ?_ ?_ <;> intro CE
 refine ah (aS _ _ _).k ?_
 exact ay (by cases x;(simp_all [jJ];done))
 refine aB ?_ ?_ <;> intro NX
 refine ah (aS _ _ _).k ?_
 exact ay (by cases x;(simp_all [jJ];done))
 refine aB ?_ ?_ <;> intro RS
 exact ay (by cases x;(simp_all [jJ] <;> rfl))
 refine aB ?_ ?_ <;> intro Xf
 refine ah (aS _ _ _).k ?_
 exact ay (by cases x;(simp_all [jJ];done))
 exact ay (by cases x;(simp_all [jJ];done))
theorem Hs (p:List iK):aF Tryz.prog 497 [L 2 (p.map jt)] (RV (.bool (tS p))):=by
 refine aF.w 19 Tryz.func497 fun w g0 hM=> ?_
 have eK:=hM.1.map
 refine cI [0,16,17,18] [] [] (fun (i:Nat)=>[.set 3 (I i)]) (fun (i:Nat)=>[]) (fun (i:Nat)=>(i ≤ p.length)∧((p.take i).all jJ=true)) (fun (i:Nat)=>p.length - i) (0) (⟨Nat.zero_le _,rfl⟩) ?_
 refine ⟨hda,fun i hyp N1 bw=> ?_⟩
 have hyp:(i ≤ p.length)∧((p.take i).all jJ=true):=hyp
 have ha:=kw hyp.2
 refine len ?_
 refine aB ?_ ?_ <;> intro hb
 ·refine rz (fun y12 hy12 qy12 ly12=> ?_)
  skip
  refine ah (Ks _).k ?_
  refine aB ?_ ?_ <;> intro gY
  ·refine bw _ _ _ ?_
   exact ay (by unfold tS;rw [ha.1 _ (by assumption) (by assumption)];rfl)
  ·refine cD ?_
   refine bw _ _ _ ?_
   refine iF (i + 1) (⟨by omega,iS hyp.2 (by assumption) (by assumption)⟩)
 ·refine bw _ _ _ ?_
  refine len ?_
  refine ah (aE _ _ _).k ?_
  exact ay (by unfold tS;rw [ha.2 (by omega)];rfl)
theorem Ht (p:List iK):aF Tryz.prog 299 [L 2 (p.map jt)] (RV (.bool (tS p))):=by
 refine aF.w 18 Tryz.func299 fun w g0 hM=> ?_
 have eK:=hM.1.map
 refine len ?_
 refine cI [0,5,6,15,16,17] [] [] (fun (i:Nat)=>[.set 7 (I i)]) (fun (i:Nat)=>[]) (fun (i:Nat)=>(i ≤ p.length)∧((p.take i).all jJ=true)) (fun (i:Nat)=>p.length - i) (0) (⟨Nat.zero_le _,rfl⟩) ?_
 refine ⟨hda,fun i hyp N1 bw=> ?_⟩
 have hyp:(i ≤ p.length)∧((p.take i).all jJ=true):=hyp
 have ha:=kw hyp.2
 refine aB ?_ ?_ <;> intro hb
 ·refine rz (fun y9 hy9 qy9 ly9=> ?_)
  skip
  refine ah (Kt _).k ?_
  refine aB ?_ ?_ <;> intro gY
  ·refine bw _ _ _ ?_
   exact ay (by unfold tS;rw [ha.1 _ (by assumption) (by assumption)];rfl)
  ·refine cD ?_
   refine bw _ _ _ ?_
   refine iF (i + 1) (⟨by omega,iS hyp.2 (by assumption) (by assumption)⟩)
 ·refine bw _ _ _ ?_
  refine len ?_
  refine ah (aS _ _ _).k ?_
  exact ay (by unfold tS;rw [ha.2 (by omega)];rfl)
theorem lT (p:Int):aF Tryz.prog 468 [I p] (RV (.bool (qK p))):=by
 refine aF.w 5 Tryz.func468 fun w g0 _=> ?_
 refine ah (aE _ _ _).k ?_
 exact rfl
theorem lU (p:Int):aF Tryz.prog 179 [I p] (RV (.bool (qK p))):=by
 refine aF.w 5 Tryz.func179 fun w g0 _=> ?_
 refine ah (aS _ _ _).k ?_
 exact rfl
theorem BJ (x:mA):aF Tryz.prog 489 [A (s0 x)] (RL 1 ((aM x).map bH)):=by
 refine aF.w 42 Tryz.func489 fun w g0 _=> ?_
 refine ah (aE _ _ _).k ?_
 refine aB ?_ ?_ <;> intro hb
 refine cB ?_
 refine ah (aE _ _ _).k ?_
 refine aB ?_ ?_ <;> intro gY
 refine cB ?_
 refine aB ?_ ?_ <;> intro gm
 refine aB ?_ ?_ <;> intro tY
 refine cB ?_
 refine aB ?_ ?_ <;> intro gm
 refine aB ?_ ?_ <;> intro yW
 refine cB ?_
 exact dW (by simp_all [aM,lz,c5];done)
 exact dW (by simp_all [aM,lz,c5];done)
 exact dW (by simp only [aM,decide_eq_true_eq,ne_eq, *,if_true,if_false,not_true_eq_false,not_false_eq_true,and_true,and_false,true_and,false_and,Bool.true_eq_false,Bool.false_eq_true,and_self,eq_self,reduceCtorEq];rfl)
 refine aB ?_ ?_ <;> intro gm
 refine aB ?_ ?_ <;> intro CE
 refine cB ?_
 exact dW (by simp_all [aM,lz,c5];done)
 exact dW (by simp_all [aM,lz,c5];done)
 exact dW (by simp only [aM,decide_eq_true_eq,ne_eq, *,if_true,if_false,not_true_eq_false,not_false_eq_true,and_true,and_false,true_and,false_and,Bool.true_eq_false,Bool.false_eq_true,and_self,eq_self,reduceCtorEq];rfl)
 refine aB ?_ ?_ <;> intro gm
 refine aB ?_ ?_ <;> intro NX
 refine cB ?_
 exact dW (by simp_all [aM,lz,c5];done)
 exact dW (by simp_all [aM,lz,c5];done)
 exact dW (by simp_all [aM,lz,c5];done)
 refine aB ?_ ?_ <;> intro gm
 refine aB ?_ ?_ <;> intro RS
 refine cB ?_
 refine aB ?_ ?_ <;> intro gm
 refine aB ?_ ?_ <;> intro Xf
 refine cB ?_
 exact dW (by simp_all [aM,lz,c5];done)
 exact dW (by simp_all [aM,lz,c5];done)
 exact dW (by simp only [aM,decide_eq_true_eq,ne_eq, *,if_true,if_false,not_true_eq_false,not_false_eq_true,and_true,and_false,true_and,false_and,Bool.true_eq_false,Bool.false_eq_true,and_self,eq_self,reduceCtorEq];rfl)
 refine aB ?_ ?_ <;> intro gm
 refine aB ?_ ?_ <;> intro hb9
 refine cB ?_
 exact dW (by simp_all [aM,lz,c5];done)
 exact dW (by simp_all [aM,lz,c5];done)
 exact dW (by simp only [aM,decide_eq_true_eq,ne_eq, *,if_true,if_false,not_true_eq_false,not_false_eq_true,and_true,and_false,true_and,false_and,Bool.true_eq_false,Bool.false_eq_true,and_self,eq_self,reduceCtorEq];rfl)
 refine aB ?_ ?_ <;> intro gm
 refine aB ?_ ?_ <;> intro Uw
 refine cB ?_
 exact dW (by simp_all [aM,lz,c5];done)
 exact dW (by simp_all [aM,lz,c5];done)
 exact dW (by simp only [aM,decide_eq_true_eq,ne_eq, *,if_true,if_false,not_true_eq_false,not_false_eq_true,and_true,and_false,true_and,false_and,Bool.true_eq_false,Bool.false_eq_true,and_self,eq_self,reduceCtorEq];rfl)
 refine ah (aE _ _ _).k ?_
 refine aB ?_ ?_ <;> intro Ux
 refine cB ?_
 refine aB ?_ ?_ <;> intro gm
 refine aB ?_ ?_ <;> intro Xg
 refine cB ?_
 refine aB ?_ ?_ <;> intro gm
 refine aB ?_ ?_ <;> intro hb13
 refine cB ?_
 exact dW (by simp only [aM,decide_eq_true_eq,ne_eq, *,if_true,if_false,not_true_eq_false,not_false_eq_true,and_true,and_false,true_and,false_and,Bool.true_eq_false,Bool.false_eq_true,and_self,eq_self,reduceCtorEq];rfl)
 exact dW (by simp_all [aM,lz,c5];done)
 exact dW (by simp only [aM,decide_eq_true_eq,ne_eq, *,if_true,if_false,not_true_eq_false,not_false_eq_true,and_true,and_false,true_and,false_and,Bool.true_eq_false,Bool.false_eq_true,and_self,eq_self,reduceCtorEq];rfl)
 refine aB ?_ ?_ <;> intro gm
 refine aB ?_ ?_ <;> intro hb14
 refine cB ?_
 exact dW (by simp only [aM,decide_eq_true_eq,ne_eq, *,if_true,if_false,not_true_eq_false,not_false_eq_true,and_true,and_false,true_and,false_and,Bool.true_eq_false,Bool.false_eq_true,and_self,eq_self,reduceCtorEq];rfl)
 exact dW (by simp_all [aM,lz,c5];done)
 exact dW (by simp only [aM,decide_eq_true_eq,ne_eq, *,if_true,if_false,not_true_eq_false,not_false_eq_true,and_true,and_false,true_and,false_and,Bool.true_eq_false,Bool.false_eq_true,and_self,eq_self,reduceCtorEq];rfl)
 refine aB ?_ ?_ <;> intro gm
 refine aB ?_ ?_ <;> intro hb15
 refine cB ?_
 exact dW (by simp_all [aM,lz,c5];done)
 exact dW (by simp_all [aM,lz,c5];done)
 exact dW (by simp_all [aM,lz,c5];done)
 refine aB ?_ ?_ <;> intro gm
 refine aB ?_ ?_ <;> intro hb16
 refine cB ?_
 refine aB ?_ ?_ <;> intro gm
 refine aB ?_ ?_ <;> intro hb17
 refine cB ?_
 exact dW (by simp_all [aM,lz,c5];done)
 exact dW (by simp_all [aM,lz,c5];done)
 exact dW (by simp_all [aM,lz,c5];done)
 refine aB ?_ ?_ <;> intro gm
 refine aB ?_ ?_ <;> intro hb18
 refine cB ?_
 exact dW (by simp_all [aM,lz,c5];done)
 exact dW (by simp_all [aM,lz,c5];done)
 exact dW (by simp_all [aM,lz,c5];done)
 refine aB ?_ ?_ <;> intro gm
 refine aB ?_ ?_ <;> intro hb19
 refine cB ?_
 exact dW (by simp_all [aM,lz,c5];done)
 exact dW (by simp_all [aM,lz,c5];done)
 exact dW (by simp_all [aM,lz,c5];done)
theorem BK (x:mA):aF Tryz.prog 415 [A (s0 x)] (RL 1 ((aM x).map bH)):=by
 refine aF.w 42 Tryz.func415 fun w g0 _=> ?_
 refine ah (aS _ _ _).k ?_
 refine aB ?_ ?_ <;> intro hb
 refine cB ?_
 refine ah (aS _ _ _).k ?_
 refine aB ?_ ?_ <;> intro gY
 refine cB ?_
 refine aB ?_ ?_ <;> intro gm
 refine aB ?_ ?_ <;> intro tY
 refine cB ?_
 refine aB ?_ ?_ <;> intro gm
 refine aB ?_ ?_ <;> intro yW
 refine cB ?_
 exact dW (by simp_all [aM,lz,c5];done)
 exact dW (by simp_all [aM,lz,c5];done)
 exact dW (by simp only [aM,decide_eq_true_eq,ne_eq, *,if_true,if_false,not_true_eq_false,not_false_eq_true,and_true,and_false,true_and,false_and,Bool.true_eq_false,Bool.false_eq_true,and_self,eq_self,reduceCtorEq];rfl)
 refine aB ?_ ?_ <;> intro gm
 refine aB ?_ ?_ <;> intro CE
 refine cB ?_
 exact dW (by simp_all [aM,lz,c5];done)
 exact dW (by simp_all [aM,lz,c5];done)
 exact dW (by simp only [aM,decide_eq_true_eq,ne_eq, *,if_true,if_false,not_true_eq_false,not_false_eq_true,and_true,and_false,true_and,false_and,Bool.true_eq_false,Bool.false_eq_true,and_self,eq_self,reduceCtorEq];rfl)
 refine aB ?_ ?_ <;> intro gm
 refine aB ?_ ?_ <;> intro NX
 refine cB ?_
 exact dW (by simp_all [aM,lz,c5];done)
 exact dW (by simp_all [aM,lz,c5];done)
 exact dW (by simp_all [aM,lz,c5];done)
 refine aB ?_ ?_ <;> intro gm
 refine aB ?_ ?_ <;> intro RS
 refine cB ?_
 refine aB ?_ ?_ <;> intro gm
 refine aB ?_ ?_ <;> intro Xf
 refine cB ?_
 exact dW (by simp_all [aM,lz,c5];done)
 exact dW (by simp_all [aM,lz,c5];done)
 exact dW (by simp only [aM,decide_eq_true_eq,ne_eq, *,if_true,if_false,not_true_eq_false,not_false_eq_true,and_true,and_false,true_and,false_and,Bool.true_eq_false,Bool.false_eq_true,and_self,eq_self,reduceCtorEq];rfl)
 refine aB ?_ ?_ <;> intro gm
 refine aB ?_ ?_ <;> intro hb9
 refine cB ?_
 exact dW (by simp_all [aM,lz,c5];done)
 exact dW (by simp_all [aM,lz,c5];done)
 exact dW (by simp only [aM,decide_eq_true_eq,ne_eq, *,if_true,if_false,not_true_eq_false,not_false_eq_true,and_true,and_false,true_and,false_and,Bool.true_eq_false,Bool.false_eq_true,and_self,eq_self,reduceCtorEq];rfl)
 refine aB ?_ ?_ <;> intro gm
 refine aB ?_ ?_ <;> intro Uw
 refine cB ?_
 exact dW (by simp_all [aM,lz,c5];done)
 exact dW (by simp_all [aM,lz,c5];done)
 exact dW (by simp only [aM,decide_eq_true_eq,ne_eq, *,if_true,if_false,not_true_eq_false,not_false_eq_true,and_true,and_false,true_and,false_and,Bool.true_eq_false,Bool.false_eq_true,and_self,eq_self,reduceCtorEq];rfl)
 refine ah (aS _ _ _).k ?_
 refine aB ?_ ?_ <;> intro Ux
 refine cB ?_
 refine aB ?_ ?_ <;> intro gm
 refine aB ?_ ?_ <;> intro Xg
 refine cB ?_
 refine aB ?_ ?_ <;> intro gm
 refine aB ?_ ?_ <;> intro hb13
 refine cB ?_
 exact dW (by simp only [aM,decide_eq_true_eq,ne_eq, *,if_true,if_false,not_true_eq_false,not_false_eq_true,and_true,and_false,true_and,false_and,Bool.true_eq_false,Bool.false_eq_true,and_self,eq_self,reduceCtorEq];rfl)
 exact dW (by simp_all [aM,lz,c5];done)
 exact dW (by simp only [aM,decide_eq_true_eq,ne_eq, *,if_true,if_false,not_true_eq_false,not_false_eq_true,and_true,and_false,true_and,false_and,Bool.true_eq_false,Bool.false_eq_true,and_self,eq_self,reduceCtorEq];rfl)
 refine aB ?_ ?_ <;> intro gm
 refine aB ?_ ?_ <;> intro hb14
 refine cB ?_
 exact dW (by simp only [aM,decide_eq_true_eq,ne_eq, *,if_true,if_false,not_true_eq_false,not_false_eq_true,and_true,and_false,true_and,false_and,Bool.true_eq_false,Bool.false_eq_true,and_self,eq_self,reduceCtorEq];rfl)
 exact dW (by simp_all [aM,lz,c5];done)
 exact dW (by simp only [aM,decide_eq_true_eq,ne_eq, *,if_true,if_false,not_true_eq_false,not_false_eq_true,and_true,and_false,true_and,false_and,Bool.true_eq_false,Bool.false_eq_true,and_self,eq_self,reduceCtorEq];rfl)
 refine aB ?_ ?_ <;> intro gm
 refine aB ?_ ?_ <;> intro hb15
 refine cB ?_
 exact dW (by simp_all [aM,lz,c5];done)
 exact dW (by simp_all [aM,lz,c5];done)
 exact dW (by simp_all [aM,lz,c5];done)
 refine aB ?_ ?_ <;> intro gm
 refine aB ?_ ?_ <;> intro hb16
 refine cB ?_
 refine aB ?_ ?_ <;> intro gm
 refine aB ?_ ?_ <;> intro hb17
 refine cB ?_
 exact dW (by simp_all [aM,lz,c5];done)
 exact dW (by simp_all [aM,lz,c5];done)
 exact dW (by simp_all [aM,lz,c5];done)
 refine aB ?_ ?_ <;> intro gm
 refine aB ?_ ?_ <;> intro hb18
 refine cB ?_
 exact dW (by simp_all [aM,lz,c5];done)
 exact dW (by simp_all [aM,lz,c5];done)
 exact dW (by simp_all [aM,lz,c5];done)
 refine aB ?_ ?_ <;> intro gm
 refine aB ?_ ?_ <;> intro hb19
 refine cB ?_
 exact dW (by simp_all [aM,lz,c5];done)
 exact dW (by simp_all [aM,lz,c5];done)
 exact dW (by simp_all [aM,lz,c5];done)
theorem tZ (x:mA):aF Tryz.prog 453 [A (s0 x)] (RV (.bool (Ag x))):=by
 refine aF.w 7 Tryz.func453 fun w g0 _=> ?_
 refine bk (BJ _).k ?_
 refine len ?_
 exact ay (by first|(unfold Ag;refine congrArg Value.bool ?_;rw [Bool.eq_iff_iff];simp))
theorem t_ (x:mA):aF Tryz.prog 300 [A (s0 x)] (RV (.bool (Ag x))):=by
 refine aF.w 7 Tryz.func300 fun w g0 _=> ?_
 refine bk (BK _).k ?_
 refine len ?_
 exact ay (by first|(unfold Ag;refine congrArg Value.bool ?_;rw [Bool.eq_iff_iff];simp))
theorem Hu (x:kF):aF Tryz.prog 498 [A (oJ x)] (RV (.bool (fy x))):=by
 refine aF.w 39 Tryz.func498 fun w g0 _=> ?_
 refine aB ?_ ?_ <;> intro hb
 refine RQ ?_
 exact ay (by cases x;simp_all [fy,jN,xS];rw [Bool.eq_iff_iff];simp [and_assoc])
 refine aB ?_ ?_ <;> intro gY
 refine RQ ?_
 exact ay (by cases x;simp_all [fy,jN,xS];rw [Bool.eq_iff_iff];simp [and_assoc])
 refine aB ?_ ?_ <;> intro tY
 refine ah (aE _ _ _).k ?_
 refine aB ?_ ?_ <;> intro gm
 exact ay (by cases x;simp_all [fy,jN,xS] <;> rfl)
 exact ay (by cases x;simp_all [fy,jN,xS];omega)
 refine aB ?_ ?_ <;> intro yW
 refine ah (aE _ _ _).k ?_
 refine aB ?_ ?_ <;> intro gm
 refine aB ?_ ?_ <;> intro Sz
 exact ay (by cases x;simp_all [fy,jN,xS];done)
 exact ay (by cases x;simp_all [fy,jN,xS];done)
 exact ay (by cases x;simp_all [fy,jN,xS];omega)
 refine aB ?_ ?_ <;> intro CE
 refine ah (aE _ _ _).k ?_
 refine aB ?_ ?_ <;> intro gm
 refine aB ?_ ?_ <;> intro Sz
 exact ay (by cases x;simp_all [fy,jN,xS];done)
 exact ay (by cases x;simp_all [fy,jN,xS];done)
 exact ay (by cases x;simp_all [fy,jN,xS];omega)
 exact ay (by cases x;simp_all [fy,jN,xS];done)
theorem Hv (x:kF):aF Tryz.prog 301 [A (oJ x)] (RV (.bool (fy x))):=by
 refine aF.w 47 Tryz.func301 fun w g0 _=> ?_
 refine aB ?_ ?_ <;> intro hb
 refine aB ?_ ?_ <;> intro gm
 refine aB ?_ ?_ <;> intro Sz
 exact ay (by cases x;simp_all [fy,jN,xS] <;> rfl)
 exact ay (by cases x;simp_all [fy,jN,xS];done)
 exact ay (by cases x;simp_all [fy,jN,xS];done)
 refine aB ?_ ?_ <;> intro gY
 refine aB ?_ ?_ <;> intro gm
 refine aB ?_ ?_ <;> intro Sz
 exact ay (by cases x;simp_all [fy,jN,xS] <;> rfl)
 exact ay (by cases x;simp_all [fy,jN,xS];done)
 exact ay (by cases x;simp_all [fy,jN,xS];done)
 refine aB ?_ ?_ <;> intro tY
 refine ah (aS _ _ _).k ?_
 refine aB ?_ ?_ <;> intro gm
 exact ay (by cases x;simp_all [fy,jN,xS] <;> rfl)
 exact ay (by cases x;simp_all [fy,jN,xS];omega)
 refine aB ?_ ?_ <;> intro yW
 refine ah (aS _ _ _).k ?_
 refine aB ?_ ?_ <;> intro gm
 refine aB ?_ ?_ <;> intro Sz
 exact ay (by cases x;simp_all [fy,jN,xS];done)
 exact ay (by cases x;simp_all [fy,jN,xS];done)
 exact ay (by cases x;simp_all [fy,jN,xS];omega)
 refine aB ?_ ?_ <;> intro CE
 refine ah (aS _ _ _).k ?_
 refine aB ?_ ?_ <;> intro gm
 refine aB ?_ ?_ <;> intro Sz
 exact ay (by cases x;simp_all [fy,jN,xS];done)
 exact ay (by cases x;simp_all [fy,jN,xS];done)
 exact ay (by cases x;simp_all [fy,jN,xS];omega)
 exact ay (by cases x;simp_all [fy,jN,xS];done)
theorem kK (a:Int) (b:Int):aF Tryz.prog 488 [I a,I b] (RV (.bool (fA a b))):=by
 refine aF.w 17 Tryz.func488 fun w g0 _=> ?_
 refine ah (aE _ _ _).k ?_
 refine aB ?_ ?_ <;> intro mS
 refine ah (aE _ _ _).k ?_
 refine aB ?_ ?_ <;> intro W9
 exact ay (by refine congrArg Value.bool ?_;rw [Bool.eq_iff_iff];simp [fA];omega)
 exact ay (by simp_all [fA];omega)
 exact ay (by simp_all [fA];omega)
theorem qS (a:Int) (b:Int):aF Tryz.prog 394 [I a,I b] (RV (.bool (fA a b))):=by
 refine aF.w 21 Tryz.func394 fun w g0 _=> ?_
 refine ah (aS _ _ _).k ?_
 refine aB ?_ ?_ <;> intro mS
 refine aB ?_ ?_ <;> intro OT
 exact ay (by refine congrArg Value.bool ?_;rw [Bool.eq_iff_iff];simp [fA];omega)
 refine aB ?_ ?_ <;> intro Uv
 exact ay (by refine congrArg Value.bool ?_;rw [Bool.eq_iff_iff];simp [fA];omega)
 exact ay (by simp_all [fA];omega)
 exact ay (by simp_all [fA];omega)
theorem vC (a:Int) (b:Int) (c:Int):aF Tryz.prog 445 [I a,I b,I c] (RV (.int .i64 (ji a b c))):=by
 refine aF.w 13 Tryz.func445 fun w g0 _=> ?_
 refine ah (kK _ _).k ?_
 refine aB ?_ ?_ <;> intro hb
 exact ay (by simp_all [ji];done)
 refine ah (kK _ _).k ?_
 refine aB ?_ ?_ <;> intro gY
 exact ay (by simp_all [ji];done)
 exact ay (by simp_all [ji];done)
theorem E9 (a:Int) (b:Int) (c:Int):aF Tryz.prog 383 [I a,I b,I c] (RV (.int .i64 (ji a b c))):=by
 refine aF.w 15 Tryz.func383 fun w g0 _=> ?_
 refine ah (qS _ _).k ?_
 refine aB ?_ ?_ <;> intro hb
 exact ay (by simp_all [ji];done)
 refine ah (qS _ _).k ?_
 refine aB ?_ ?_ <;> intro gY
 exact ay (by simp_all [ji];done)
 exact ay (by simp_all [ji];done)
theorem BL (p:Int) (w:Bool):aF Tryz.prog 442 [I p,B w] (RP (A (oJ (ia p w)))):=by
 refine aF.w 8 Tryz.func442 fun w g0 _=> ?_
 exact rfl
theorem k5 (p:Int) (w:Bool):aF Tryz.prog 263 [I p,B w] (RP (A (oJ (ia p w)))):=by
 refine aF.w 8 Tryz.func263 fun w g0 _=> ?_
 exact rfl
theorem C4 (n:Int):aF Tryz.prog 481 [I n] (RP (A (oJ (kH n)))):=by
 refine aF.w 5 Tryz.func481 fun w g0 _=> ?_
 exact rfl
theorem C5 (n:Int):aF Tryz.prog 393 [I n] (RP (A (oJ (kH n)))):=by
 refine aF.w 5 Tryz.func393 fun w g0 _=> ?_
 exact rfl
theorem E_ (n:Int):aF Tryz.prog 482 [I n] (RP (A (oJ (rM n)))):=by
 refine aF.w 5 Tryz.func482 fun w g0 _=> ?_
 exact rfl
theorem Fa (n:Int):aF Tryz.prog 476 [I n] (RP (A (oJ (rM n)))):=by
 refine aF.w 5 Tryz.func476 fun w g0 _=> ?_
 exact rfl
theorem pQ (m:Int) (g:Int):aF Tryz.prog 348 [I m,I g] (RV (.int .i64 (bZ m g))):=by
 refine aF.w 18 Tryz.func348 fun w g0 _=> ?_
 refine ah (aE _ _ _).k ?_
 refine aB ?_ ?_ <;> intro gm
 exact ay (by simp_all [bZ];omega)
 refine ah (aE _ _ _).k ?_
 refine aB ?_ ?_ <;> intro hb
 exact ay (by simp_all [bZ];omega)
 refine cD ?_
 refine cD ?_
 refine cD ?_
 exact ay (by simp_all [bZ];done)
theorem pR (m:Int) (g:Int):aF Tryz.prog 277 [I m,I g] (RV (.int .i64 (bZ m g))):=by
 refine aF.w 18 Tryz.func277 fun w g0 _=> ?_
 refine ah (bA _ _).k ?_
 refine aB ?_ ?_ <;> intro gm
 exact ay (by simp_all [bZ];omega)
 refine ah (bA _ _).k ?_
 refine aB ?_ ?_ <;> intro hb
 exact ay (by simp_all [bZ];omega)
 refine cD ?_
 refine cD ?_
 refine cD ?_
 exact ay (by simp_all [bZ];omega)
end
end Go.Proofs.YtdliggkohdnipaaGreat.T
