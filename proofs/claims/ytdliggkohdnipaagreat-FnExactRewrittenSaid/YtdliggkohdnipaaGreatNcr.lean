import Derived.Test.YtdliggkohdnipaaGreatNar
set_option linter.unusedVariables false
set_option linter.unusedSimpArgs false
namespace Go.Proofs.YtdliggkohdnipaaGreat.T
open Go
section
variable {c p:Int} {m:List (List Int)} {r:List Int}
set_option maxRecDepth 100000
set_option maxHeartbeats 1000000
def m_ (m:List (List Int)) (p c:Int):Bool:=match kS m p with|some r=>decide (0 ≤ c∧c < r.length)|none=>false
theorem yS (h:¬ (0 ≤ p∧p < m.length)):m_ m p c=false:=by unfold m_;rw [nR h]
theorem yT (h:0 ≤ p) (hr:m[p.toNat]? = some r):m_ m p c=decide (0 ≤ c∧c < r.length):=by unfold m_;rw [oL h hr]
theorem CD (h:m_ m p c=true):∃ r,0 ≤ p∧m[p.toNat]? = some r∧kS m p=some r∧0 ≤ c∧c < r.length:=by
 unfold m_ at h
 split at h
 rename_i r hr
 have h0:=hr
 unfold kS at h0
 split at h0
 rename_i hp
 have:=of_decide_eq_true h
 exact ⟨r,hp,h0,hr,this⟩
 cases h0
 cases h
theorem Kq (h:m_ m p c=false):cellAt m p c=0:=by
 unfold m_ at h
 unfold cellAt
 split at h
 rename_i r hr
 rw [hr]
 simp only [Option.bind_some]
 rw [nR (of_decide_eq_false h)]
 rfl
 rename_i hr
 rw [hr]
 rfl
theorem Qo {v:Int} (h:0 ≤ p) (hr:m[p.toNat]? = some r) (hc:0 ≤ c) (hv:r[c.toNat]? = some v):cellAt m p c=v:=by
 unfold cellAt
 rw [oL h hr]
 simp only [Option.bind_some]
 rw [oL hc hv]
 rfl
theorem Ut (h:¬ (0 ≤ p∧p < m.length)):cellAt m p c=0:=Kq (yS h)
theorem Uu (h:0 ≤ p) (hr:m[p.toNat]? = some r) (hc:¬ (0 ≤ c∧c < r.length)):cellAt m p c=0:=Kq (by rw [yT h hr];exact decide_eq_false hc)
theorem qQ (t:List aL) (size:Int) (pages:Int) [OP:Q (0 ≤ pages∧pages ≤ 1000)]:aF Tryz.prog 469 [L 2 (t.map aQ),I size,I pages] (RV (.bool (jP t size pages))):=by
 refine aF.w 25 Tryz.func469 fun w g0 hM=> ?_
 have eK:=hM.1.map
 refine cI [0,1,2,21,22,23,24] [] [] (fun (i:Nat)=>[.set 7 (I i)]) (fun (i:Nat)=>[]) (fun (i:Nat)=>(i ≤ t.length)∧((t.take i).all (iw · pages)=true)) (fun (i:Nat)=>t.length - i) (0) (⟨Nat.zero_le _,rfl⟩) ?_
 refine ⟨hda,fun i hyp N1 bw=> ?_⟩
 have hyp:(i ≤ t.length)∧((t.take i).all (iw · pages)=true):=hyp
 have ha:=kw hyp.2
 refine len ?_
 refine aB ?_ ?_ <;> intro hb
 ·refine rz (fun y16 OQ OR OS=> ?_)
  skip
  refine ah (ya _ _).k ?_
  refine aB ?_ ?_ <;> intro gY
  ·refine bw _ _ _ ?_
   exact ay (by unfold jP;rw [ha.1 _ (by assumption) (by assumption)];rfl)
  ·refine cD ?_
   refine bw _ _ _ ?_
   refine iF (i + 1) (⟨by omega,iS hyp.2 (by assumption) (by assumption)⟩)
 ·refine bw _ _ _ ?_
  refine len ?_
  exact ay (by unfold jP;rw [ha.2 (by omega)];rfl)
theorem qR (t:List aL) (size:Int) (pages:Int) [OP:Q (0 ≤ pages∧pages ≤ 1000)]:aF Tryz.prog 209 [L 2 (t.map aQ),I size,I pages] (RV (.bool (jP t size pages))):=by
 refine aF.w 24 Tryz.func209 fun w g0 hM=> ?_
 have eK:=hM.1.map
 refine len ?_
 refine cI [0,1,2,9,10,20,21,22,23] [] [] (fun (i:Nat)=>[.set 11 (I i)]) (fun (i:Nat)=>[]) (fun (i:Nat)=>(i ≤ t.length)∧((t.take i).all (iw · pages)=true)) (fun (i:Nat)=>t.length - i) (0) (⟨Nat.zero_le _,rfl⟩) ?_
 refine ⟨hda,fun i hyp N1 bw=> ?_⟩
 have hyp:(i ≤ t.length)∧((t.take i).all (iw · pages)=true):=hyp
 have ha:=kw hyp.2
 refine aB ?_ ?_ <;> intro hb
 ·refine rz (fun y13 Z9 Z_ aaa=> ?_)
  skip
  refine ah (yb _ _).k ?_
  refine aB ?_ ?_ <;> intro gY
  ·refine bw _ _ _ ?_
   exact ay (by unfold jP;rw [ha.1 _ (by assumption) (by assumption)];rfl)
  ·refine cD ?_
   refine bw _ _ _ ?_
   refine iF (i + 1) (⟨by omega,iS hyp.2 (by assumption) (by assumption)⟩)
 ·refine bw _ _ _ ?_
  refine len ?_
  exact ay (by unfold jP;rw [ha.2 (by omega)];rfl)
theorem oq (t:List Int):aF Tryz.prog 470 [L 1 (t.map bH)] (RV (.bool (iM t))):=by
 refine aF.w 19 Tryz.func470 fun w g0 hM=> ?_
 have eK:=hM.1.map
 refine cI [0,16,17,18] [] [] (fun (i:Nat)=>[.set 3 (I i)]) (fun (i:Nat)=>[]) (fun (i:Nat)=>(i ≤ t.length)∧((t.take i).all (j7 · 0 99)=true)) (fun (i:Nat)=>t.length - i) (0) (⟨Nat.zero_le _,rfl⟩) ?_
 refine ⟨hda,fun i hyp N1 bw=> ?_⟩
 have hyp:(i ≤ t.length)∧((t.take i).all (j7 · 0 99)=true):=hyp
 have ha:=kw hyp.2
 refine len ?_
 refine aB ?_ ?_ <;> intro hb
 ·refine rz (fun y12 hy12 qy12 ly12=> ?_)
  skip
  refine ah (aE _ _ _).k ?_
  refine aB ?_ ?_ <;> intro gY
  ·refine bw _ _ _ ?_
   exact ay (by (unfold iM;rw [ha.1 _ (by assumption) (by exact decide_eq_false (by omega))];rfl))
  ·refine cD ?_
   refine bw _ _ _ ?_
   refine iF (i + 1) (⟨by omega,iS hyp.2 (by assumption) (by exact decide_eq_true (by omega))⟩)
 ·refine bw _ _ _ ?_
  refine len ?_
  exact ay (by unfold iM;rw [ha.2 (by omega)];(rw [Value.bool.injEq,Bool.eq_iff_iff];simp;omega))
theorem sr (t:List Int):aF Tryz.prog 208 [L 1 (t.map bH)] (RV (.bool (iM t))):=by
 refine aF.w 18 Tryz.func208 fun w g0 hM=> ?_
 have eK:=hM.1.map
 refine len ?_
 refine cI [0,5,6,15,16,17] [] [] (fun (i:Nat)=>[.set 7 (I i)]) (fun (i:Nat)=>[]) (fun (i:Nat)=>(i ≤ t.length)∧((t.take i).all (j7 · 0 99)=true)) (fun (i:Nat)=>t.length - i) (0) (⟨Nat.zero_le _,rfl⟩) ?_
 refine ⟨hda,fun i hyp N1 bw=> ?_⟩
 have hyp:(i ≤ t.length)∧((t.take i).all (j7 · 0 99)=true):=hyp
 have ha:=kw hyp.2
 refine aB ?_ ?_ <;> intro hb
 ·refine rz (fun y9 hy9 qy9 ly9=> ?_)
  skip
  refine ah (aS _ _ _).k ?_
  refine aB ?_ ?_ <;> intro gY
  ·refine bw _ _ _ ?_
   exact ay (by (unfold iM;rw [ha.1 _ (by assumption) (by exact decide_eq_false (by omega))];rfl))
  ·refine cD ?_
   refine bw _ _ _ ?_
   refine iF (i + 1) (⟨by omega,iS hyp.2 (by assumption) (by exact decide_eq_true (by omega))⟩)
 ·refine bw _ _ _ ?_
  refine len ?_
  exact ay (by unfold iM;rw [ha.2 (by omega)];(rw [Value.bool.injEq,Bool.eq_iff_iff];simp;omega))
theorem Am (m:List (List Int)) (pages:Int):aF Tryz.prog 427 [L 1 (m.map aN),I pages] (RV (.bool (rL m pages))):=by
 refine aF.w 22 Tryz.func427 fun w g0 hM=> ?_
 have eK:=hM.1.map
 refine cI [0,1,18,19,20,21] [] [] (fun (i:Nat)=>[.set 5 (I i)]) (fun (i:Nat)=>[]) (fun (i:Nat)=>(i ≤ m.length)∧((m.take i).all iM=true)) (fun (i:Nat)=>m.length - i) (0) (⟨Nat.zero_le _,rfl⟩) ?_
 refine ⟨hda,fun i hyp N1 bw=> ?_⟩
 have hyp:(i ≤ m.length)∧((m.take i).all iM=true):=hyp
 have ha:=kw hyp.2
 refine len ?_
 refine aB ?_ ?_ <;> intro hb
 ·refine rz (fun y14 W_ Xa Xb=> ?_)
  skip
  refine ah (oq _).k ?_
  refine aB ?_ ?_ <;> intro gY
  ·refine bw _ _ _ ?_
   exact ay (by unfold rL;rw [ha.1 _ (by assumption) (by assumption)];rfl)
  ·refine cD ?_
   refine bw _ _ _ ?_
   refine iF (i + 1) (⟨by omega,iS hyp.2 (by assumption) (by assumption)⟩)
 ·refine bw _ _ _ ?_
  refine len ?_
  exact ay (by unfold rL;rw [ha.2 (by omega)];rfl)
theorem An (m:List (List Int)) (pages:Int):aF Tryz.prog 117 [L 1 (m.map aN),I pages] (RV (.bool (rL m pages))):=by
 refine aF.w 21 Tryz.func117 fun w g0 hM=> ?_
 have eK:=hM.1.map
 refine len ?_
 refine cI [0,1,7,8,17,18,19,20] [] [] (fun (i:Nat)=>[.set 9 (I i)]) (fun (i:Nat)=>[]) (fun (i:Nat)=>(i ≤ m.length)∧((m.take i).all iM=true)) (fun (i:Nat)=>m.length - i) (0) (⟨Nat.zero_le _,rfl⟩) ?_
 refine ⟨hda,fun i hyp N1 bw=> ?_⟩
 have hyp:(i ≤ m.length)∧((m.take i).all iM=true):=hyp
 have ha:=kw hyp.2
 refine aB ?_ ?_ <;> intro hb
 ·refine rz (fun y11 hy11 qy11 ly11=> ?_)
  skip
  refine ah (sr _).k ?_
  refine aB ?_ ?_ <;> intro gY
  ·refine bw _ _ _ ?_
   exact ay (by unfold rL;rw [ha.1 _ (by assumption) (by assumption)];rfl)
  ·refine cD ?_
   refine bw _ _ _ ?_
   refine iF (i + 1) (⟨by omega,iS hyp.2 (by assumption) (by assumption)⟩)
 ·refine bw _ _ _ ?_
  refine len ?_
  exact ay (by unfold rL;rw [ha.2 (by omega)];rfl)
theorem Hp (t:List aL) (ag:Int) [Q (dZ t)]:aF Tryz.prog 483 [L 2 (t.map aQ),I ag] (RL 1 ((jx t ag).map bH)):=by
 refine aF.w 26 Tryz.func483 fun w g0 hM=> ?_
 have eK:=hM.1.map
 refine cI [0,1,4,5,25] [5] [5] (fun (i:Nat)=>[.set 6 (I i)]) (fun (i:Nat)=>[(5,⟨false,[.own (.sl 1 ((cz (Ah t ag) i).map bH))]⟩)]) (fun (i:Nat)=>i ≤ t.length) (fun (i:Nat)=>t.length - i) (0) (Nat.zero_le _) ?_
 refine ⟨hda,fun i hyp N1 bw=> ?_⟩
 have hyp:i ≤ t.length:=hyp
 have hr:= @gQ (Ah t ag) i
 have ht:=(inferInstance:dc t 1048576).h
 refine len ?_
 refine aB ?_ ?_ <;> intro hb
 ·refine rz (fun y16 OQ OR OS=> ?_)
  skip
  refine aB ?_ ?_ <;> intro gY
  ·refine ES ?_
   refine cD ?_
   refine bw _ _ _ ?_
   refine iF (i + 1) (by omega) (by repeat' first|exact rfl|refine And.intro ?_ ?_|exact True.intro|(refine eV ?_;simp [List.take_add_one,List.set_set,eG,Ah, *];done))
  ·refine cD ?_
   refine bw _ _ _ ?_
   refine iF (i + 1) (by omega) (by repeat' first|exact rfl|refine And.intro ?_ ?_|exact True.intro|(refine eV ?_;simp [List.take_add_one,List.set_set,eG,Ah, *];done))
 ·refine bw _ _ _ ?_
  exact (by rw [show i=t.length by omega];rfl)
theorem Hq (t:List aL) (ag:Int) [Q (dZ t)]:aF Tryz.prog 416 [L 2 (t.map aQ),I ag] (RL 1 ((jx t ag).map bH)):=by
 refine aF.w 26 Tryz.func416 fun w g0 hM=> ?_
 have eK:=hM.1.map
 refine len ?_
 refine cI [1,4,5,9,10,25] [5] [5] (fun (i:Nat)=>[.set 11 (I i)]) (fun (i:Nat)=>[(5,⟨false,[.own (.sl 1 ((cz (Ah t ag) i).map bH))]⟩)]) (fun (i:Nat)=>i ≤ t.length) (fun (i:Nat)=>t.length - i) (0) (Nat.zero_le _) ?_
 refine ⟨hda,fun i hyp N1 bw=> ?_⟩
 have hyp:i ≤ t.length:=hyp
 have hr:= @gQ (Ah t ag) i
 have ht:=(inferInstance:dc t 1048576).h
 refine aB ?_ ?_ <;> intro hb
 ·refine rz (fun y14 W_ Xa Xb=> ?_)
  skip
  refine aB ?_ ?_ <;> intro gY
  ·refine ES ?_
   refine cD ?_
   refine bw _ _ _ ?_
   refine iF (i + 1) (by omega) (by repeat' first|exact rfl|refine And.intro ?_ ?_|exact True.intro|(refine eV ?_;simp [List.take_add_one,List.set_set,eG,Ah, *];done))
  ·refine cD ?_
   refine bw _ _ _ ?_
   refine iF (i + 1) (by omega) (by repeat' first|exact rfl|refine And.intro ?_ ?_|exact True.intro|(refine eV ?_;simp [List.take_add_one,List.set_set,eG,Ah, *];done))
 ·refine bw _ _ _ ?_
  exact (by rw [show i=t.length by omega];rfl)
theorem iN (x:List Int) [Q (c4 x)]:aF Tryz.prog 86 [L 1 (x.map bH)] (RL 1 (x.map bH)):=by
 refine aF.w 6 Tryz.func86 fun w g0 _=> ?_
 refine cB ?_
 exact rfl
theorem jz (x:List aL) [Q (dZ x)]:aF Tryz.prog 303 [L 2 (x.map aQ)] (RL 2 (x.map aQ)):=by
 refine aF.w 6 Tryz.func303 fun w g0 _=> ?_
 refine cB ?_
 exact rfl
theorem C3 (x:List iK) [Q (qI x)]:aF Tryz.prog 302 [L 2 (x.map jt)] (RL 2 (x.map jt)):=by
 refine aF.w 6 Tryz.func302 fun w g0 _=> ?_
 refine cB ?_
 exact rfl
theorem kI (m:List (List Int)) [Q (dY m)]:aF Tryz.prog 320 [L 1 (m.map aN)] (RL 1 (m.map aN)):=by
 refine aF.w 22 Tryz.func320 fun w g0 hM=> ?_
 have eK:=hM.1.map
 refine cI [0,2,3,21] [3] [3] (fun (i:Nat)=>[.set 4 (I i)]) (fun (i:Nat)=>[(3,⟨false,[.own (.sl 1 ((m.take i).map aN))]⟩)]) (fun (i:Nat)=>i ≤ m.length) (fun (i:Nat)=>m.length - i) (0) (Nat.zero_le _) ?_
 refine ⟨hda,fun i hyp N1 bw=> ?_⟩
 have hyp:i ≤ m.length:=hyp
 refine len ?_
 refine aB ?_ ?_ <;> intro hb
 ·refine rz (fun y16 OQ OR OS=> ?_)
  skip
  refine cB ?_
  refine xX ?_
  refine cD ?_
  refine bw _ _ _ ?_
  refine iF (i + 1) (by omega)
 ·refine bw _ _ _ ?_
  exact (by rw [List.take_of_length_le (by omega)];rfl)
theorem kJ (m:List (List Int)) [Q (dY m)]:aF Tryz.prog 84 [L 1 (m.map aN)] (RL 1 (m.map aN)):=by
 refine aF.w 20 Tryz.func84 fun w g0 hM=> ?_
 have eK:=hM.1.map
 refine len ?_
 refine cI [2,3,7,8,19] [3] [3] (fun (i:Nat)=>[.set 9 (I i)]) (fun (i:Nat)=>[(3,⟨false,[.own (.sl 1 ((m.take i).map aN))]⟩)]) (fun (i:Nat)=>i ≤ m.length) (fun (i:Nat)=>m.length - i) (0) (Nat.zero_le _) ?_
 refine ⟨hda,fun i hyp N1 bw=> ?_⟩
 have hyp:i ≤ m.length:=hyp
 refine aB ?_ ?_ <;> intro hb
 ·refine rz (fun y11 hy11 qy11 ly11=> ?_)
  skip
  refine bk (iN _).k ?_
  refine xX ?_
  refine cD ?_
  refine bw _ _ _ ?_
  refine iF (i + 1) (by omega)
 ·refine bw _ _ _ ?_
  exact (by rw [List.take_of_length_le (by omega)];rfl)
theorem yc (m:List (List Int)) (p:Int) (c:Int) [Q (dY m)]:aF Tryz.prog 454 [L 1 (m.map aN),I p,I c] (RV (.bool (m_ m p c))):=by
 refine aF.w 22 Tryz.func454 fun w g0 hM=> ?_
 have eK:=hM.1.map
 refine len ?_
 refine cD ?_
 refine ah (aE _ _ _).k ?_
 refine aB ?_ ?_ <;> intro OT
 ·refine xN (fun y16 OQ OR OS=> ?_)
  skip
  skip
  refine len ?_
  refine cD ?_
  refine ah (aE _ _ _).k ?_
  exact ay (by rw [yT (by omega) (by assumption)];refine congrArg Value.bool ?_;rw [Bool.eq_iff_iff];simp;omega)
 ·exact ay (by rw [yS (by omega)])
theorem yd (m:List (List Int)) (p:Int) (c:Int) [Q (dY m)]:aF Tryz.prog 360 [L 1 (m.map aN),I p,I c] (RV (.int .i64 (cellAt m p c))):=by
 refine aF.w 19 Tryz.func360 fun w g0 hM=> ?_
 have eK:=hM.1.map
 refine ah (yc _ _ _).k ?_
 refine aB ?_ ?_ <;> intro hb
 ·exact ay (by rw [Kq (by assumption)])
 ·obtain ⟨r,OP,hr,Og,hc0,xF⟩:=CD hb
  have Wf:=(List.getElem?_eq_some_iff.1 hr).1
  refine fN (by assumption) ?_
  skip
  skip
  refine xN (fun y17 hy17 qy17 ly17=> ?_)
  skip
  skip
  exact ay (by rw [Qo (by omega) (by assumption) (by omega) (by assumption)])
theorem lS (m:List (List Int)) (p:Int) (c:Int) [Q (dY m)]:aF Tryz.prog 268 [L 1 (m.map aN),I p,I c] (RV (.int .i64 (cellAt m p c))):=by
 refine aF.w 29 Tryz.func268 fun w g0 hM=> ?_
 have eK:=hM.1.map
 refine len ?_
 refine ah (bA _ _).k ?_
 refine aB ?_ ?_ <;> intro OT
 ·exact ay (by rw [Ut (by omega)])
 ·refine xN (fun y16 OQ OR OS=> ?_)
  skip
  skip
  refine len ?_
  refine ah (bA _ _).k ?_
  refine aB ?_ ?_ <;> intro hb
  ·exact ay (by rw [Uu (by omega) (by assumption) (by omega)])
  ·refine fN (by assumption) ?_
   skip
   skip
   refine xN (fun y27 hy27 qy27 ly27=> ?_)
   skip
   skip
   exact ay (by rw [Qo (by omega) (by assumption) (by omega) (by assumption)])
end
section
variable {c p v:Int} {m:List (List Int)} {cells:List Int} {n:Nat}
set_option maxRecDepth 100000
set_option maxHeartbeats 1000000
theorem oN (h:m_ m p c=false ∨ ¬ (0 ≤ v∧v ≤ 99)):ec m p c v=m:=by
 unfold ec
 unfold m_ at h
 split
 rfl
 rename_i r hr
 rw [hr] at h
 split
 rename_i hv
 have hc:¬ (0 ≤ c∧c < r.length):=by
  rcases h with h|h
  exact of_decide_eq_false h
  exact absurd (of_decide_eq_true hv) h
 rw [Aj hc]
 unfold kS at hr
 split at hr
 rename_i hp
 rw [tX hp]
 obtain ⟨h1,h2⟩:=List.getElem?_eq_some_iff.1 hr
 rw [← h2,List.set_getElem_self]
 cases hr
 rfl
theorem Ao {r:List Int} (h:0 ≤ p) (hr:m[p.toNat]? = some r) (hc:0 ≤ c) (hv:0 ≤ v∧v ≤ 99):ec m p c v=m.set p.toNat (r.set c.toNat v):=by
 unfold ec
 rw [oL h hr]
 simp only
 rw [if_pos (decide_eq_true hv),tX h,tX hc]
theorem YA {a:Int} (h:a ≤ 9223372036854775807):a.tdiv 4 ≤ 9223372036854775807∧(0 ≤ a→0 ≤ a.tdiv 4):=by
 by_cases h0:0 ≤ a
 rw [Int.tdiv_eq_ediv_of_nonneg h0]
 omega
 have h1:a.tdiv 4= -((-a).tdiv 4):=by rw [Int.neg_tdiv];omega
 rw [h1,Int.tdiv_eq_ediv_of_nonneg (by omega)]
 omega
theorem OU (h:n ≤ 24):brought n 0 24=n:=by unfold brought;rw [if_neg (by omega),if_neg (by omega)]
theorem E7 {r n:Int} (h:fi r n=true):0 ≤ n∧n ≤ 3∧0 ≤ r∧r ≤ 3:=by
 simp only [fi,Bool.and_eq_true,decide_eq_true_eq] at h
 omega
theorem rN (h:¬ (0 ≤ p∧p < m.length) ∨ iM cells=false):eW m p cells=m:=by
 unfold eW
 split
 rename_i hk
 rcases h with h|h
 exact Aj h
 rw [h] at hk;cases hk
 rfl
theorem Ap (h:0 ≤ p) (hk:iM cells=true):eW m p cells=m.set p.toNat cells:=by unfold eW;rw [if_pos hk,tX h]
theorem uH (t:List aL) (n:Int) (s:aL) [Q (dZ t)]:aF Tryz.prog 449 [L 2 (t.map aQ),I n,A (gB s)] (RL 2 ((put t n s).map aQ)):=by
 refine aF.w 21 Tryz.func449 fun w g0 hM=> ?_
 have eK:=hM.1.map
 refine cB ?_
 refine len ?_
 refine cD ?_
 refine ah (aE _ _ _).k ?_
 refine aB ?_ ?_ <;> intro hb
 refine aZ ?_
 refine rA (fun z1 Xc Xd Xe=> ?_)
 exact (by rw [tX (by omega),List.map_set];rfl)
 exact (by rw [Aj (by omega)];rfl)
theorem uI (t:List aL) (n:Int) (s:aL) [Q (dZ t)]:aF Tryz.prog 398 [L 2 (t.map aQ),I n,A (gB s)] (RL 2 ((put t n s).map aQ)):=by
 refine aF.w 19 Tryz.func398 fun w g0 hM=> ?_
 have eK:=hM.1.map
 refine bk (jz _).k ?_
 refine len ?_
 refine ah (bA _ _).k ?_
 refine aB ?_ ?_ <;> intro hb
 refine aZ ?_
 refine rA (fun z1 Xc Xd Xe=> ?_)
 exact (by rw [tX (by omega),List.map_set];rfl)
 exact (by rw [Aj (by omega)];rfl)
theorem ye (m:List (List Int)) (n:Int) [Q (dY m)]:aF Tryz.prog 207 [L 1 (m.map aN),I n] (RL 1 ((eo m n).map bH)):=by
 refine aF.w 18 Tryz.func207 fun w g0 hM=> ?_
 have eK:=hM.1.map
 refine len ?_
 refine cD ?_
 refine ah (aE _ _ _).k ?_
 refine aB ?_ ?_ <;> intro hb
 ·refine Z0 4 ?_
  exact (by rw [eo,nR (by omega)];rfl)
 ·refine xN (fun y15 hy15 qy15 ly15=> ?_)
  skip
  refine cB ?_
  exact (by rw [eo,oL (by omega) (by assumption)];rfl)
theorem su (m:List (List Int)) (n:Int) [Q (dY m)]:aF Tryz.prog 187 [L 1 (m.map aN),I n] (RL 1 ((eo m n).map bH)):=by
 refine aF.w 16 Tryz.func187 fun w g0 hM=> ?_
 have eK:=hM.1.map
 refine len ?_
 refine ah (bA _ _).k ?_
 refine aB ?_ ?_ <;> intro hb
 ·refine Z0 4 ?_
  exact (by rw [eo,nR (by omega)];rfl)
 ·refine xN (fun y13 Z9 Z_ aaa=> ?_)
  skip
  refine bk (iN _).k ?_
  exact (by rw [eo,oL (by omega) (by assumption)];rfl)
theorem yU (s:aL) (t:List aL):aF Tryz.prog 492 [A (gB s),L 2 (t.map aQ)] (RP (A (gB (eX s t)))):=by
 refine aF.w 33 Tryz.func492 fun w g0 _=> ?_
 refine ah (sn _ _).k ?_
 refine ah (Ak _ _).k ?_
 refine aB ?_ ?_ <;> intro gm
 refine ah (cW).k ?_
 exact (by unfold eX;(rw [if_pos (by omega)];rfl))
 refine aB ?_ ?_ <;> intro Sz
 refine ah (cW).k ?_
 exact (by unfold eX;(rw [if_pos (by omega)];rfl))
 refine aB ?_ ?_ <;> intro hb
 refine ah (cW).k ?_
 exact (by unfold eX;(rw [if_pos (by omega)];rfl))
 exact (by unfold eX;(rw [if_neg (by omega)];rfl))
theorem yV (s:aL) (t:List aL):aF Tryz.prog 500 [A (gB s),L 2 (t.map aQ)] (RP (A (gB (eX s t)))):=by
 refine aF.w 33 Tryz.func500 fun w g0 _=> ?_
 refine ah (oo _ _).k ?_
 refine ah (Al _ _).k ?_
 refine aB ?_ ?_ <;> intro gm
 refine ah (eM).k ?_
 exact (by unfold eX;(rw [if_pos (by omega)];rfl))
 refine aB ?_ ?_ <;> intro Sz
 refine ah (eM).k ?_
 exact (by unfold eX;(rw [if_pos (by omega)];rfl))
 refine aB ?_ ?_ <;> intro hb
 refine ah (eM).k ?_
 exact (by unfold eX;(rw [if_pos (by omega)];rfl))
 exact (by unfold eX;(rw [if_neg (by omega)];rfl))
theorem s4 (t:List aL) (p:Int) (n:Int):aF Tryz.prog 456 [L 2 (t.map aQ),I p,I n] (RG [.c (.v (.int .i64 ((bn t p n).getD (-1)))), .c (.v (.bool (bn t p n).isSome))]):=by
 refine aF.w 28 Tryz.func456 fun w g0 _=> ?_
 have he:= @E7 (eP t p).aT n
 refine ah (sn _ _).k ?_
 refine aB ?_ ?_ <;> intro gm
 exact (by rw [show bn t p n=none from if_pos (by simp [*];done)];rfl)
 refine ah (kn _ _).k ?_
 refine aB ?_ ?_ <;> intro Uv
 exact (by rw [show bn t p n=none from if_pos (by simp [*];done)];rfl)
 refine aB ?_ ?_ <;> intro hb
 exact (by rw [show bn t p n=none from if_pos (by simp [*];done)];rfl)
 exact (by rw [show bn t p n=some _ from if_neg (by simp [*];done)];rfl)
theorem kY (t:List aL) (p:Int) (n:Int):aF Tryz.prog 392 [L 2 (t.map aQ),I p,I n] (RG [.c (.v (.int .i64 ((bn t p n).getD (-1)))), .c (.v (.bool (bn t p n).isSome))]):=by
 refine aF.w 29 Tryz.func392 fun w g0 _=> ?_
 have he:= @E7 (eP t p).aT n
 refine ah (oo _ _).k ?_
 refine aB ?_ ?_ <;> intro gm
 exact (by rw [show bn t p n=none from if_pos (by simp [*];done)];rfl)
 refine ah (fm _ _).k ?_
 refine aB ?_ ?_ <;> intro Uv
 exact (by rw [show bn t p n=none from if_pos (by simp [*];done)];rfl)
 refine ah (aS _ _ _).k ?_
 refine aB ?_ ?_ <;> intro hb
 exact (by (rw [show bn t p n=none from if_pos (by simp_all;omega)];rfl))
 exact (by rw [show bn t p n=some _ from if_neg (by simp_all;omega)];rfl)
theorem me (a:Int) [ha0:Q (a ≤ 9223372036854775807)]:aF Tryz.prog 358 [I a] (RV (.int .i64 (bl a))):=by
 refine aF.w 7 Tryz.func358 fun w g0 _=> ?_
 have h4:a.tdiv 4 ≤ 9223372036854775807∧(0 ≤ a→0 ≤ a.tdiv 4):=YA ha0.h
 refine aB ?_ ?_ <;> intro hb
 exact ay (by simp_all [bl];done)
 refine nz (cD ?_)
 exact ay (by simp_all [bl];omega)
theorem ed (a:Int) [ha0:Q (a ≤ 9223372036854775807)]:aF Tryz.prog 260 [I a] (RV (.int .i64 (bl a))):=by
 refine aF.w 7 Tryz.func260 fun w g0 _=> ?_
 have h4:a.tdiv 4 ≤ 9223372036854775807∧(0 ≤ a→0 ≤ a.tdiv 4):=YA ha0.h
 refine aB ?_ ?_ <;> intro hb
 exact ay (by simp_all [bl];done)
 refine nz (cD ?_)
 exact ay (by simp_all [bl];omega)
theorem mg (a:Int):aF Tryz.prog 359 [I a] (RV (.int .i64 (bT a))):=by
 refine aF.w 7 Tryz.func359 fun w g0 _=> ?_
 refine aB ?_ ?_ <;> intro hb
 exact ay (by simp_all [bT];done)
 refine nz ?_
 exact ay (by simp_all [bT];omega)
theorem ee (a:Int):aF Tryz.prog 265 [I a] (RV (.int .i64 (bT a))):=by
 refine aF.w 7 Tryz.func265 fun w g0 _=> ?_
 refine aB ?_ ?_ <;> intro hb
 exact ay (by simp_all [bT];done)
 refine nz ?_
 exact ay (by simp_all [bT];omega)
theorem E8 (h:n ≤ 24):aF Tryz.prog 140 [I n,I 0,I 24] (RV (.int .i64 n)):=by
 have h1:=E6 n 0 24
 rwa [OU h] at h1
theorem Hr (n:Nat) (hn:n ≤ 24:=by omega):aF Tryz.prog 111 [I n] (RL 1 ((BH n).map aN)):=by
 refine aF.w 17 Tryz.func111 fun w g0 _=> ?_
 refine ah (E8 hn).k ?_
 refine cI [2,3,16] [3] [3] (fun (i:Nat)=>[.set 4 (I ((n:Int) - i))]) (fun (i:Nat)=>[(3,⟨false,[.own (.sl 1 ((List.replicate i [0,0,0,0]).map aN))]⟩)]) (fun (i:Nat)=>i ≤ n) (fun (i:Nat)=>n - i) (0) (Nat.zero_le _) ?_
 refine ⟨hda,fun i hyp N1 bw=> ?_⟩
 have hyp:i ≤ n:=hyp
 refine aB ?_ ?_ <;> intro hb
 refine Z0 4 ?_
 refine xX ?_
 refine cD ?_
 refine bw _ _ _ ?_
 refine iF (i + 1) (by omega) (by repeat' first|exact rfl|refine And.intro ?_ ?_|exact True.intro|(refine eV ?_;simp [List.take_add_one,List.set_set,eG,List.replicate_succ', *];done)|(refine eV ?_;exact congrArg (fun z:Int=>(I z:TS)) (by omega)))
 refine bw _ _ _ ?_
 exact (by rw [show i=n by omega];rfl)
end
end Go.Proofs.YtdliggkohdnipaaGreat.T
