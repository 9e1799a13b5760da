import Derived.Test.YtdliggkohdnipaaGreatNcq
set_option linter.unusedVariables false
set_option linter.unusedSimpArgs false
namespace Go.Proofs.YtdliggkohdnipaaGreat.T
open Go
section
variable {n:Int} {p:List bZ}
set_option maxRecDepth 100000
set_option maxHeartbeats 1000000
theorem Ob {y:bZ} (h:0 ≤ n) (hy:p[n.toNat]? = some y):cV p n=y:=by unfold cV;rw [qH h hy];rfl
theorem KB (h:¬ (0 ≤ n∧n < p.length)):cV p n=⟨7,0⟩:=by unfold cV;rw [q4 h];rfl
theorem q5 (m:List (List Int)) (p:Int) (c:Int) (v:Int) [Q (eD m)]:aF Tryz.prog 354 [L 1 (m.map aP),I p,I c,I v] (RL 1 ((eR m p c v).map aP)):=by
 refine aF.w 28 Tryz.func354 fun w g0 hM=> ?_
 have eW:=hM.1.map
 refine bu (lV _).k ?_
 refine ah (zT _ _ _).k ?_
 refine aB ?_ ?_ <;> intro Fu
 refine ah (aE _ _ _).k ?_
 refine aB ?_ ?_ <;> intro hb
 obtain ⟨r,Qr,hr,PW,hc0,s4⟩:=DZ ‹_›
 have XV:=(aM.1 hr).1
 refine bl ?_
 refine aL ‹_› ?_
 refine aL ‹_› ?_
 refine bl ?_
 refine aL ‹_› ?_
 refine sn (fun z4 hz4 qz4 lz4=> ?_)
 exact (by rw [BL (by omega) ‹_› (by omega) (by omega)];simp only [bL,aP];rfl)
 exact (by (rw [qI (by exact .inr (by omega))];rfl))
 exact (by rw [qI (by exact .inl ‹_›)];rfl)
theorem iD (m:List (List Int)) (p:Int) (c:Int) (v:Int) [Q (eD m)]:aF Tryz.prog 264 [L 1 (m.map aP),I p,I c,I v] (RL 1 ((eR m p c v).map aP)):=by
 refine aF.w 37 Tryz.func264 fun w g0 hM=> ?_
 have eW:=hM.1.map
 refine bu (ko _).k ?_
 refine len ?_
 refine ah (bM _ _).k ?_
 refine aB ?_ ?_ <;> intro Fu
 ·refine xw (fun y20 hy20 qy20 ly20=> ?_)
  skip
  skip
  refine len ?_
  refine ah (bM _ _).k ?_
  refine aB ?_ ?_ <;> intro Wb
  ·refine ah (aU _ _ _).k ?_
   refine aB ?_ ?_ <;> intro hb
   ·refine bl ?_
    refine aL ‹_› ?_
    refine aL ‹_› ?_
    refine bl ?_
    refine aL ‹_› ?_
    refine sn (fun z6 hz6 qz6 lz6=> ?_)
    exact (by rw [BL (by omega) ‹_› (by omega) (by omega)];simp only [bL,aP];rfl)
   ·exact (by (rw [qI (by exact .inr (by omega))];rfl))
  ·exact (by (rw [qI (by refine .inl ?_;rw [AG (by omega) ‹_›];exact decide_eq_false (by omega))];rfl))
 ·exact (by (rw [qI (by exact .inl (AF (by omega)))];rfl))
theorem nF (m:List (List Int)) (p:Int) (x:List Int) [Q (eD m)] [Q (dP x)]:aF Tryz.prog 486 [L 1 (m.map aP),I p,L 1 (x.map bS)] (RL 1 ((fG m p x).map aP)):=by
 refine aF.w 26 Tryz.func486 fun w g0 hM=> ?_
 have eW:=hM.1.map
 refine bu (lV _).k ?_
 refine len ?_
 refine cg ?_
 refine ah (aE _ _ _).k ?_
 refine aB ?_ ?_ <;> intro Py
 refine ah (pZ _).k ?_
 refine aB ?_ ?_ <;> intro hb
 refine cD ?_
 refine bl ?_
 refine sn (fun z1 XP XQ XR=> ?_)
 exact (by rw [BM (by omega) ‹_›];simp only [bL,aP];rfl)
 exact (by (rw [tq (by exact .inr ‹_›)];rfl))
 exact (by rw [tq (by exact .inl (by omega))];rfl)
theorem wu (m:List (List Int)) (p:Int) (x:List Int) [Q (eD m)] [Q (dP x)]:aF Tryz.prog 412 [L 1 (m.map aP),I p,L 1 (x.map bS)] (RL 1 ((fG m p x).map aP)):=by
 refine aF.w 24 Tryz.func412 fun w g0 hM=> ?_
 have eW:=hM.1.map
 refine bu (ko _).k ?_
 refine len ?_
 refine ah (bM _ _).k ?_
 refine aB ?_ ?_ <;> intro Fu
 refine ah (tY _).k ?_
 refine aB ?_ ?_ <;> intro hb
 refine bu (iC _).k ?_
 refine bl ?_
 refine sn (fun z1 XP XQ XR=> ?_)
 exact (by rw [BM (by omega) ‹_›];simp only [bL,aP];rfl)
 exact (by (rw [tq (by exact .inr ‹_›)];rfl))
 exact (by rw [tq (by exact .inl (by omega))];rfl)
theorem mH (p:List bZ) (n:Int):aF Tryz.prog 435 [L 2 (p.map i_),I n] (RP (A (Eo (cV p n)))):=by
 refine aF.w 16 Tryz.func435 fun w g0 hM=> ?_
 have eW:=hM.1.map
 refine len ?_
 refine cg ?_
 refine ah (aE _ _ _).k ?_
 refine aB ?_ ?_ <;> intro hb
 ·exact (by rw [KB (by omega)];rfl)
 ·refine xw (fun y14 YP YQ YR=> ?_)
  skip
  exact (by rw [Ob (by omega) ‹_›];rfl)
theorem kQ (p:List bZ) (n:Int):aF Tryz.prog 379 [L 2 (p.map i_),I n] (RP (A (Eo (cV p n)))):=by
 refine aF.w 15 Tryz.func379 fun w g0 hM=> ?_
 have eW:=hM.1.map
 refine len ?_
 refine ah (bM _ _).k ?_
 refine aB ?_ ?_ <;> intro hb
 ·exact (by rw [KB (by omega)];rfl)
 ·refine xw (fun y13 hy13 qy13 ly13=> ?_)
  skip
  exact (by rw [Ob (by omega) ‹_›];rfl)
theorem L5 (x:bZ):aF Tryz.prog 502 [A (Eo x)] (RV (.bool (kz x))):=by
 refine aF.w 29 Tryz.func502 fun w g0 _=> ?_
 refine aB ?_ ?_ <;> intro hb
 refine ah (aE _ _ _).k ?_
 exact ay (by cases x;(simp_all [kz];done))
 refine aB ?_ ?_ <;> intro iz
 refine ah (aE _ _ _).k ?_
 exact ay (by cases x;(simp_all [kz];done))
 refine aB ?_ ?_ <;> intro tr
 refine ah (aE _ _ _).k ?_
 exact ay (by cases x;(simp_all [kz];done))
 refine aB ?_ ?_ <;> intro AJ
 refine ah (aE _ _ _).k ?_
 exact ay (by cases x;(simp_all [kz];done))
 refine aB ?_ ?_ <;> intro D0
 refine ah (aE _ _ _).k ?_
 exact ay (by cases x;(simp_all [kz];done))
 refine aB ?_ ?_ <;> intro Pz
 refine ah (aE _ _ _).k ?_
 exact ay (by cases x;(simp_all [kz];done))
 refine aB ?_ ?_ <;> intro TD
 exact ay (by cases x;(simp_all [kz] <;> rfl))
 refine aB ?_ ?_ <;> intro YT
 refine ah (aE _ _ _).k ?_
 exact ay (by cases x;(simp_all [kz];done))
 exact ay (by cases x;(simp_all [kz];done))
theorem L6 (x:bZ):aF Tryz.prog 414 [A (Eo x)] (RV (.bool (kz x))):=by
 refine aF.w 29 Tryz.func414 fun w g0 _=> ?_
 refine aB ?_ ?_ <;> intro hb
 refine ah (aU _ _ _).k ?_
 exact ay (by cases x;(simp_all [kz];done))
 refine aB ?_ ?_ <;> intro iz
 refine ah (aU _ _ _).k ?_
 exact ay (by cases x;(simp_all [kz];done))
 refine aB ?_ ?_ <;> intro tr
 refine ah (aU _ _ _).k ?_
 exact ay (by cases x;(simp_all [kz];done))
 refine aB ?_ ?_ <;> intro AJ
 refine ah (aU _ _ _).k ?_
 exact ay (by cases x;(simp_all [kz];done))
 refine aB ?_ ?_ <;> intro D0
 refine ah (aU _ _ _).k ?_
 exact ay (by cases x;(simp_all [kz];done))
 refine aB ?_ ?_ <;> intro Pz
 refine ah (aU _ _ _).k ?_
 exact ay (by cases x;(simp_all [kz];done))
 refine aB ?_ ?_ <;> intro TD
 exact ay (by cases x;(simp_all [kz] <;> rfl))
 refine aB ?_ ?_ <;> intro YT
 refine ah (aU _ _ _).k ?_
 exact ay (by cases x;(simp_all [kz];done))
 exact ay (by cases x;(simp_all [kz];done))
theorem Jc (p:List bZ):aF Tryz.prog 497 [L 2 (p.map i_)] (RV (.bool (vw p))):=by
 refine aF.w 19 Tryz.func497 fun w g0 hM=> ?_
 have eW:=hM.1.map
 refine ck [0,16,17,18] [] [] (fun (i:Nat)=>[.set 3 (I i)]) (fun (i:Nat)=>[]) (fun (i:Nat)=>(i ≤ p.length)∧((p.take i).all kz=true)) (fun (i:Nat)=>p.length - i) (0) (⟨bG _,rfl⟩) ?_
 refine ⟨hda,fun i hyp N1 bq=> ?_⟩
 have hyp:(i ≤ p.length)∧((p.take i).all kz=true):=hyp
 have ha:=lI hyp.2
 refine len ?_
 refine aB ?_ ?_ <;> intro hb
 ·refine s6 (fun y12 hy12 qy12 ly12=> ?_)
  skip
  refine ah (L5 _).k ?_
  refine aB ?_ ?_ <;> intro iz
  ·refine bq _ _ _ ?_
   exact ay (by unfold vw;rw [ha.1 _ ‹_› ‹_›];rfl)
  ·refine cg ?_
   refine bq _ _ _ ?_
   refine hY (i + 1) (⟨by omega,jD hyp.2 ‹_› ‹_›⟩)
 ·refine bq _ _ _ ?_
  refine len ?_
  refine ah (aE _ _ _).k ?_
  exact ay (by unfold vw;rw [ha.2 (by omega)];rfl)
theorem Jd (p:List bZ):aF Tryz.prog 299 [L 2 (p.map i_)] (RV (.bool (vw p))):=by
 refine aF.w 18 Tryz.func299 fun w g0 hM=> ?_
 have eW:=hM.1.map
 refine len ?_
 refine ck [0,5,6,15,16,17] [] [] (fun (i:Nat)=>[.set 7 (I i)]) (fun (i:Nat)=>[]) (fun (i:Nat)=>(i ≤ p.length)∧((p.take i).all kz=true)) (fun (i:Nat)=>p.length - i) (0) (⟨bG _,rfl⟩) ?_
 refine ⟨hda,fun i hyp N1 bq=> ?_⟩
 have hyp:(i ≤ p.length)∧((p.take i).all kz=true):=hyp
 have ha:=lI hyp.2
 refine aB ?_ ?_ <;> intro hb
 ·refine s6 (fun y9 hy9 qy9 ly9=> ?_)
  skip
  refine ah (L6 _).k ?_
  refine aB ?_ ?_ <;> intro iz
  ·refine bq _ _ _ ?_
   exact ay (by unfold vw;rw [ha.1 _ ‹_› ‹_›];rfl)
  ·refine cg ?_
   refine bq _ _ _ ?_
   refine hY (i + 1) (⟨by omega,jD hyp.2 ‹_› ‹_›⟩)
 ·refine bq _ _ _ ?_
  refine len ?_
  refine ah (aU _ _ _).k ?_
  exact ay (by unfold vw;rw [ha.2 (by omega)];rfl)
theorem nl (p:Int):aF Tryz.prog 468 [I p] (RV (.bool (su p))):=by
 refine aF.w 5 Tryz.func468 fun w g0 _=> ?_
 refine ah (aE _ _ _).k ?_
 exact rfl
theorem nq (p:Int):aF Tryz.prog 179 [I p] (RV (.bool (su p))):=by
 refine aF.w 5 Tryz.func179 fun w g0 _=> ?_
 refine ah (aU _ _ _).k ?_
 exact rfl
theorem CZ (x:qY):aF Tryz.prog 489 [A (zA x)] (RL 1 ((aR x).map bS)):=by
 refine aF.w 42 Tryz.func489 fun w g0 _=> ?_
 refine ah (aE _ _ _).k ?_
 refine aB ?_ ?_ <;> intro hb
 refine cD ?_
 refine ah (aE _ _ _).k ?_
 refine aB ?_ ?_ <;> intro iz
 refine cD ?_
 refine aB ?_ ?_ <;> intro gK
 refine aB ?_ ?_ <;> intro tr
 refine cD ?_
 refine aB ?_ ?_ <;> intro gK
 refine aB ?_ ?_ <;> intro AJ
 refine cD ?_
 exact eK (by simp_all [aR,mX,dw];done)
 exact eK (by simp_all [aR,mX,dw];done)
 exact eK (by simp only [aR,decide_eq_true_eq,ne_eq, *,if_true,if_false,not_true_eq_false,not_false_eq_true,and_true,and_false,true_and,false_and,lD,gD,and_self,eq_self,reduceCtorEq];rfl)
 refine aB ?_ ?_ <;> intro gK
 refine aB ?_ ?_ <;> intro D0
 refine cD ?_
 exact eK (by simp_all [aR,mX,dw];done)
 exact eK (by simp_all [aR,mX,dw];done)
 exact eK (by simp only [aR,decide_eq_true_eq,ne_eq, *,if_true,if_false,not_true_eq_false,not_false_eq_true,and_true,and_false,true_and,false_and,lD,gD,and_self,eq_self,reduceCtorEq];rfl)
 refine aB ?_ ?_ <;> intro gK
 refine aB ?_ ?_ <;> intro Pz
 refine cD ?_
 exact eK (by simp_all [aR,mX,dw];done)
 exact eK (by simp_all [aR,mX,dw];done)
 exact eK (by simp_all [aR,mX,dw];done)
 refine aB ?_ ?_ <;> intro gK
 refine aB ?_ ?_ <;> intro TD
 refine cD ?_
 refine aB ?_ ?_ <;> intro gK
 refine aB ?_ ?_ <;> intro YT
 refine cD ?_
 exact eK (by simp_all [aR,mX,dw];done)
 exact eK (by simp_all [aR,mX,dw];done)
 exact eK (by simp only [aR,decide_eq_true_eq,ne_eq, *,if_true,if_false,not_true_eq_false,not_false_eq_true,and_true,and_false,true_and,false_and,lD,gD,and_self,eq_self,reduceCtorEq];rfl)
 refine aB ?_ ?_ <;> intro gK
 refine aB ?_ ?_ <;> intro hb9
 refine cD ?_
 exact eK (by simp_all [aR,mX,dw];done)
 exact eK (by simp_all [aR,mX,dw];done)
 exact eK (by simp only [aR,decide_eq_true_eq,ne_eq, *,if_true,if_false,not_true_eq_false,not_false_eq_true,and_true,and_false,true_and,false_and,lD,gD,and_self,eq_self,reduceCtorEq];rfl)
 refine aB ?_ ?_ <;> intro gK
 refine aB ?_ ?_ <;> intro We
 refine cD ?_
 exact eK (by simp_all [aR,mX,dw];done)
 exact eK (by simp_all [aR,mX,dw];done)
 exact eK (by simp only [aR,decide_eq_true_eq,ne_eq, *,if_true,if_false,not_true_eq_false,not_false_eq_true,and_true,and_false,true_and,false_and,lD,gD,and_self,eq_self,reduceCtorEq];rfl)
 refine ah (aE _ _ _).k ?_
 refine aB ?_ ?_ <;> intro Wf
 refine cD ?_
 refine aB ?_ ?_ <;> intro gK
 refine aB ?_ ?_ <;> intro Wg
 refine cD ?_
 refine aB ?_ ?_ <;> intro gK
 refine aB ?_ ?_ <;> intro YU
 refine cD ?_
 exact eK (by simp only [aR,decide_eq_true_eq,ne_eq, *,if_true,if_false,not_true_eq_false,not_false_eq_true,and_true,and_false,true_and,false_and,lD,gD,and_self,eq_self,reduceCtorEq];rfl)
 exact eK (by simp_all [aR,mX,dw];done)
 exact eK (by simp only [aR,decide_eq_true_eq,ne_eq, *,if_true,if_false,not_true_eq_false,not_false_eq_true,and_true,and_false,true_and,false_and,lD,gD,and_self,eq_self,reduceCtorEq];rfl)
 refine aB ?_ ?_ <;> intro gK
 refine aB ?_ ?_ <;> intro hb14
 refine cD ?_
 exact eK (by simp only [aR,decide_eq_true_eq,ne_eq, *,if_true,if_false,not_true_eq_false,not_false_eq_true,and_true,and_false,true_and,false_and,lD,gD,and_self,eq_self,reduceCtorEq];rfl)
 exact eK (by simp_all [aR,mX,dw];done)
 exact eK (by simp only [aR,decide_eq_true_eq,ne_eq, *,if_true,if_false,not_true_eq_false,not_false_eq_true,and_true,and_false,true_and,false_and,lD,gD,and_self,eq_self,reduceCtorEq];rfl)
 refine aB ?_ ?_ <;> intro gK
 refine aB ?_ ?_ <;> intro hb15
 refine cD ?_
 exact eK (by simp_all [aR,mX,dw];done)
 exact eK (by simp_all [aR,mX,dw];done)
 exact eK (by simp_all [aR,mX,dw];done)
 refine aB ?_ ?_ <;> intro gK
 refine aB ?_ ?_ <;> intro hb16
 refine cD ?_
 refine aB ?_ ?_ <;> intro gK
 refine aB ?_ ?_ <;> intro hb17
 refine cD ?_
 exact eK (by simp_all [aR,mX,dw];done)
 exact eK (by simp_all [aR,mX,dw];done)
 exact eK (by simp_all [aR,mX,dw];done)
 refine aB ?_ ?_ <;> intro gK
 refine aB ?_ ?_ <;> intro hb18
 refine cD ?_
 exact eK (by simp_all [aR,mX,dw];done)
 exact eK (by simp_all [aR,mX,dw];done)
 exact eK (by simp_all [aR,mX,dw];done)
 refine aB ?_ ?_ <;> intro gK
 refine aB ?_ ?_ <;> intro hb19
 refine cD ?_
 exact eK (by simp_all [aR,mX,dw];done)
 exact eK (by simp_all [aR,mX,dw];done)
 exact eK (by simp_all [aR,mX,dw];done)
theorem C0 (x:qY):aF Tryz.prog 415 [A (zA x)] (RL 1 ((aR x).map bS)):=by
 refine aF.w 42 Tryz.func415 fun w g0 _=> ?_
 refine ah (aU _ _ _).k ?_
 refine aB ?_ ?_ <;> intro hb
 refine cD ?_
 refine ah (aU _ _ _).k ?_
 refine aB ?_ ?_ <;> intro iz
 refine cD ?_
 refine aB ?_ ?_ <;> intro gK
 refine aB ?_ ?_ <;> intro tr
 refine cD ?_
 refine aB ?_ ?_ <;> intro gK
 refine aB ?_ ?_ <;> intro AJ
 refine cD ?_
 exact eK (by simp_all [aR,mX,dw];done)
 exact eK (by simp_all [aR,mX,dw];done)
 exact eK (by simp only [aR,decide_eq_true_eq,ne_eq, *,if_true,if_false,not_true_eq_false,not_false_eq_true,and_true,and_false,true_and,false_and,lD,gD,and_self,eq_self,reduceCtorEq];rfl)
 refine aB ?_ ?_ <;> intro gK
 refine aB ?_ ?_ <;> intro D0
 refine cD ?_
 exact eK (by simp_all [aR,mX,dw];done)
 exact eK (by simp_all [aR,mX,dw];done)
 exact eK (by simp only [aR,decide_eq_true_eq,ne_eq, *,if_true,if_false,not_true_eq_false,not_false_eq_true,and_true,and_false,true_and,false_and,lD,gD,and_self,eq_self,reduceCtorEq];rfl)
 refine aB ?_ ?_ <;> intro gK
 refine aB ?_ ?_ <;> intro Pz
 refine cD ?_
 exact eK (by simp_all [aR,mX,dw];done)
 exact eK (by simp_all [aR,mX,dw];done)
 exact eK (by simp_all [aR,mX,dw];done)
 refine aB ?_ ?_ <;> intro gK
 refine aB ?_ ?_ <;> intro TD
 refine cD ?_
 refine aB ?_ ?_ <;> intro gK
 refine aB ?_ ?_ <;> intro YT
 refine cD ?_
 exact eK (by simp_all [aR,mX,dw];done)
 exact eK (by simp_all [aR,mX,dw];done)
 exact eK (by simp only [aR,decide_eq_true_eq,ne_eq, *,if_true,if_false,not_true_eq_false,not_false_eq_true,and_true,and_false,true_and,false_and,lD,gD,and_self,eq_self,reduceCtorEq];rfl)
 refine aB ?_ ?_ <;> intro gK
 refine aB ?_ ?_ <;> intro hb9
 refine cD ?_
 exact eK (by simp_all [aR,mX,dw];done)
 exact eK (by simp_all [aR,mX,dw];done)
 exact eK (by simp only [aR,decide_eq_true_eq,ne_eq, *,if_true,if_false,not_true_eq_false,not_false_eq_true,and_true,and_false,true_and,false_and,lD,gD,and_self,eq_self,reduceCtorEq];rfl)
 refine aB ?_ ?_ <;> intro gK
 refine aB ?_ ?_ <;> intro We
 refine cD ?_
 exact eK (by simp_all [aR,mX,dw];done)
 exact eK (by simp_all [aR,mX,dw];done)
 exact eK (by simp only [aR,decide_eq_true_eq,ne_eq, *,if_true,if_false,not_true_eq_false,not_false_eq_true,and_true,and_false,true_and,false_and,lD,gD,and_self,eq_self,reduceCtorEq];rfl)
 refine ah (aU _ _ _).k ?_
 refine aB ?_ ?_ <;> intro Wf
 refine cD ?_
 refine aB ?_ ?_ <;> intro gK
 refine aB ?_ ?_ <;> intro Wg
 refine cD ?_
 refine aB ?_ ?_ <;> intro gK
 refine aB ?_ ?_ <;> intro YU
 refine cD ?_
 exact eK (by simp only [aR,decide_eq_true_eq,ne_eq, *,if_true,if_false,not_true_eq_false,not_false_eq_true,and_true,and_false,true_and,false_and,lD,gD,and_self,eq_self,reduceCtorEq];rfl)
 exact eK (by simp_all [aR,mX,dw];done)
 exact eK (by simp only [aR,decide_eq_true_eq,ne_eq, *,if_true,if_false,not_true_eq_false,not_false_eq_true,and_true,and_false,true_and,false_and,lD,gD,and_self,eq_self,reduceCtorEq];rfl)
 refine aB ?_ ?_ <;> intro gK
 refine aB ?_ ?_ <;> intro hb14
 refine cD ?_
 exact eK (by simp only [aR,decide_eq_true_eq,ne_eq, *,if_true,if_false,not_true_eq_false,not_false_eq_true,and_true,and_false,true_and,false_and,lD,gD,and_self,eq_self,reduceCtorEq];rfl)
 exact eK (by simp_all [aR,mX,dw];done)
 exact eK (by simp only [aR,decide_eq_true_eq,ne_eq, *,if_true,if_false,not_true_eq_false,not_false_eq_true,and_true,and_false,true_and,false_and,lD,gD,and_self,eq_self,reduceCtorEq];rfl)
 refine aB ?_ ?_ <;> intro gK
 refine aB ?_ ?_ <;> intro hb15
 refine cD ?_
 exact eK (by simp_all [aR,mX,dw];done)
 exact eK (by simp_all [aR,mX,dw];done)
 exact eK (by simp_all [aR,mX,dw];done)
 refine aB ?_ ?_ <;> intro gK
 refine aB ?_ ?_ <;> intro hb16
 refine cD ?_
 refine aB ?_ ?_ <;> intro gK
 refine aB ?_ ?_ <;> intro hb17
 refine cD ?_
 exact eK (by simp_all [aR,mX,dw];done)
 exact eK (by simp_all [aR,mX,dw];done)
 exact eK (by simp_all [aR,mX,dw];done)
 refine aB ?_ ?_ <;> intro gK
 refine aB ?_ ?_ <;> intro hb18
 refine cD ?_
 exact eK (by simp_all [aR,mX,dw];done)
 exact eK (by simp_all [aR,mX,dw];done)
 exact eK (by simp_all [aR,mX,dw];done)
 refine aB ?_ ?_ <;> intro gK
 refine aB ?_ ?_ <;> intro hb19
 refine cD ?_
 exact eK (by simp_all [aR,mX,dw];done)
 exact eK (by simp_all [aR,mX,dw];done)
 exact eK (by simp_all [aR,mX,dw];done)
theorem vB (x:qY):aF Tryz.prog 453 [A (zA x)] (RV (.bool (BE x))):=by
 refine aF.w 7 Tryz.func453 fun w g0 _=> ?_
 refine bu (CZ _).k ?_
 refine len ?_
 exact ay (by first|(unfold BE;refine congrArg Value.bool ?_;rw [dX];simp))
theorem vC (x:qY):aF Tryz.prog 300 [A (zA x)] (RV (.bool (BE x))):=by
 refine aF.w 7 Tryz.func300 fun w g0 _=> ?_
 refine bu (C0 _).k ?_
 refine len ?_
 exact ay (by first|(unfold BE;refine congrArg Value.bool ?_;rw [dX];simp))
theorem Je (x:qE):aF Tryz.prog 498 [A (uM x)] (RV (.bool (ga x))):=by
 refine aF.w 39 Tryz.func498 fun w g0 _=> ?_
 refine aB ?_ ?_ <;> intro hb
 refine Tw ?_
 exact ay (by cases x;simp_all [ga,kH,zJ];rw [dX];simp [and_assoc])
 refine aB ?_ ?_ <;> intro iz
 refine Tw ?_
 exact ay (by cases x;simp_all [ga,kH,zJ];rw [dX];simp [and_assoc])
 refine aB ?_ ?_ <;> intro tr
 refine ah (aE _ _ _).k ?_
 refine aB ?_ ?_ <;> intro gK
 exact ay (by cases x;simp_all [ga,kH,zJ] <;> rfl)
 exact ay (by cases x;simp_all [ga,kH,zJ];omega)
 refine aB ?_ ?_ <;> intro AJ
 refine ah (aE _ _ _).k ?_
 refine aB ?_ ?_ <;> intro gK
 refine aB ?_ ?_ <;> intro Tz
 exact ay (by cases x;simp_all [ga,kH,zJ];done)
 exact ay (by cases x;simp_all [ga,kH,zJ];done)
 exact ay (by cases x;simp_all [ga,kH,zJ];omega)
 refine aB ?_ ?_ <;> intro D0
 refine ah (aE _ _ _).k ?_
 refine aB ?_ ?_ <;> intro gK
 refine aB ?_ ?_ <;> intro Tz
 exact ay (by cases x;simp_all [ga,kH,zJ];done)
 exact ay (by cases x;simp_all [ga,kH,zJ];done)
 exact ay (by cases x;simp_all [ga,kH,zJ];omega)
 exact ay (by cases x;simp_all [ga,kH,zJ];done)
theorem Jf (x:qE):aF Tryz.prog 301 [A (uM x)] (RV (.bool (ga x))):=by
 refine aF.w 47 Tryz.func301 fun w g0 _=> ?_
 refine aB ?_ ?_ <;> intro hb
 refine aB ?_ ?_ <;> intro gK
 refine aB ?_ ?_ <;> intro Tz
 exact ay (by cases x;simp_all [ga,kH,zJ] <;> rfl)
 exact ay (by cases x;simp_all [ga,kH,zJ];done)
 exact ay (by cases x;simp_all [ga,kH,zJ];done)
 refine aB ?_ ?_ <;> intro iz
 refine aB ?_ ?_ <;> intro gK
 refine aB ?_ ?_ <;> intro Tz
 exact ay (by cases x;simp_all [ga,kH,zJ] <;> rfl)
 exact ay (by cases x;simp_all [ga,kH,zJ];done)
 exact ay (by cases x;simp_all [ga,kH,zJ];done)
 refine aB ?_ ?_ <;> intro tr
 refine ah (aU _ _ _).k ?_
 refine aB ?_ ?_ <;> intro gK
 exact ay (by cases x;simp_all [ga,kH,zJ] <;> rfl)
 exact ay (by cases x;simp_all [ga,kH,zJ];omega)
 refine aB ?_ ?_ <;> intro AJ
 refine ah (aU _ _ _).k ?_
 refine aB ?_ ?_ <;> intro gK
 refine aB ?_ ?_ <;> intro Tz
 exact ay (by cases x;simp_all [ga,kH,zJ];done)
 exact ay (by cases x;simp_all [ga,kH,zJ];done)
 exact ay (by cases x;simp_all [ga,kH,zJ];omega)
 refine aB ?_ ?_ <;> intro D0
 refine ah (aU _ _ _).k ?_
 refine aB ?_ ?_ <;> intro gK
 refine aB ?_ ?_ <;> intro Tz
 exact ay (by cases x;simp_all [ga,kH,zJ];done)
 exact ay (by cases x;simp_all [ga,kH,zJ];done)
 exact ay (by cases x;simp_all [ga,kH,zJ];omega)
 exact ay (by cases x;simp_all [ga,kH,zJ];done)
theorem lW (a:Int) (b:Int):aF Tryz.prog 488 [I a,I b] (RV (.bool (gb a b))):=by
 refine aF.w 17 Tryz.func488 fun w g0 _=> ?_
 refine ah (aE _ _ _).k ?_
 refine aB ?_ ?_ <;> intro oe
 refine ah (aE _ _ _).k ?_
 refine aB ?_ ?_ <;> intro YO
 exact ay (by refine congrArg Value.bool ?_;rw [dX];simp [gb];omega)
 exact ay (by simp_all [gb];omega)
 exact ay (by simp_all [gb];omega)
theorem sD (a:Int) (b:Int):aF Tryz.prog 394 [I a,I b] (RV (.bool (gb a b))):=by
 refine aF.w 21 Tryz.func394 fun w g0 _=> ?_
 refine ah (aU _ _ _).k ?_
 refine aB ?_ ?_ <;> intro oe
 refine aB ?_ ?_ <;> intro Py
 exact ay (by refine congrArg Value.bool ?_;rw [dX];simp [gb];omega)
 refine aB ?_ ?_ <;> intro TB
 exact ay (by refine congrArg Value.bool ?_;rw [dX];simp [gb];omega)
 exact ay (by simp_all [gb];omega)
 exact ay (by simp_all [gb];omega)
theorem xG (a:Int) (b:Int) (c:Int):aF Tryz.prog 445 [I a,I b,I c] (RV (.int .i64 (jY a b c))):=by
 refine aF.w 13 Tryz.func445 fun w g0 _=> ?_
 refine ah (lW _ _).k ?_
 refine aB ?_ ?_ <;> intro hb
 exact ay (by simp_all [jY];done)
 refine ah (lW _ _).k ?_
 refine aB ?_ ?_ <;> intro iz
 exact ay (by simp_all [jY];done)
 exact ay (by simp_all [jY];done)
theorem GL (a:Int) (b:Int) (c:Int):aF Tryz.prog 383 [I a,I b,I c] (RV (.int .i64 (jY a b c))):=by
 refine aF.w 15 Tryz.func383 fun w g0 _=> ?_
 refine ah (sD _ _).k ?_
 refine aB ?_ ?_ <;> intro hb
 exact ay (by simp_all [jY];done)
 refine ah (sD _ _).k ?_
 refine aB ?_ ?_ <;> intro iz
 exact ay (by simp_all [jY];done)
 exact ay (by simp_all [jY];done)
theorem C1 (p:Int) (w:Bool):aF Tryz.prog 442 [I p,B w] (RP (A (uM (iR p w)))):=by
 refine aF.w 8 Tryz.func442 fun w g0 _=> ?_
 exact rfl
theorem mI (p:Int) (w:Bool):aF Tryz.prog 263 [I p,B w] (RP (A (uM (iR p w)))):=by
 refine aF.w 8 Tryz.func263 fun w g0 _=> ?_
 exact rfl
theorem Ep (n:Int):aF Tryz.prog 481 [I n] (RP (A (uM (lR n)))):=by
 refine aF.w 5 Tryz.func481 fun w g0 _=> ?_
 exact rfl
theorem Er (n:Int):aF Tryz.prog 393 [I n] (RP (A (uM (lR n)))):=by
 refine aF.w 5 Tryz.func393 fun w g0 _=> ?_
 exact rfl
theorem GM (n:Int):aF Tryz.prog 482 [I n] (RP (A (uM (tj n)))):=by
 refine aF.w 5 Tryz.func482 fun w g0 _=> ?_
 exact rfl
theorem GN (n:Int):aF Tryz.prog 476 [I n] (RP (A (uM (tj n)))):=by
 refine aF.w 5 Tryz.func476 fun w g0 _=> ?_
 exact rfl
theorem rF (m:Int) (g:Int):aF Tryz.prog 348 [I m,I g] (RV (.int .i64 (cq m g))):=by
 refine aF.w 18 Tryz.func348 fun w g0 _=> ?_
 refine ah (aE _ _ _).k ?_
 refine aB ?_ ?_ <;> intro gK
 exact ay (by simp_all [cq];omega)
 refine ah (aE _ _ _).k ?_
 refine aB ?_ ?_ <;> intro hb
 exact ay (by simp_all [cq];omega)
 refine cg ?_
 refine cg ?_
 refine cg ?_
 exact ay (by simp_all [cq];done)
theorem rG (m:Int) (g:Int):aF Tryz.prog 277 [I m,I g] (RV (.int .i64 (cq m g))):=by
 refine aF.w 18 Tryz.func277 fun w g0 _=> ?_
 refine ah (bM _ _).k ?_
 refine aB ?_ ?_ <;> intro gK
 exact ay (by simp_all [cq];omega)
 refine ah (bM _ _).k ?_
 refine aB ?_ ?_ <;> intro hb
 exact ay (by simp_all [cq];omega)
 refine cg ?_
 refine cg ?_
 refine cg ?_
 exact ay (by simp_all [cq];omega)
end
end Go.Proofs.YtdliggkohdnipaaGreat.T
