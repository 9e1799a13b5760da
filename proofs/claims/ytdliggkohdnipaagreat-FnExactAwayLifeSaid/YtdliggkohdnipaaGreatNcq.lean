import Derived.Test.YtdliggkohdnipaaGreatNaq
set_option linter.unusedVariables false
set_option linter.unusedSimpArgs false
namespace Go.Proofs.YtdliggkohdnipaaGreat.T
open Go
section
variable {c p:Int} {m:List (List Int)} {r:List Int}
set_option maxRecDepth 100000
set_option maxHeartbeats 1000000
def oy (m:List (List Int)) (p c:Int):Bool:=match m5 m p with|some r=>decide (0 ≤ c∧c < r.length)|none=>false
theorem AF (h:¬ (0 ≤ p∧p < m.length)):oy m p c=false:=by unfold oy;rw [q4 h]
theorem AG (h:0 ≤ p) (hr:m[p.toNat]? = some r):oy m p c=decide (0 ≤ c∧c < r.length):=by unfold oy;rw [qH h hr]
theorem DZ (h:oy m p c=true):∃ r,0 ≤ p∧m[p.toNat]? = some r∧m5 m p=some r∧0 ≤ c∧c < r.length:=by
 unfold oy at h
 split at h
 rename_i r hr
 have h0:=hr
 unfold m5 at h0
 split at h0
 rename_i hp
 have:=of_decide_eq_true h
 exact ⟨r,hp,h0,hr,this⟩
 cases h0
 cases h
theorem L4 (h:oy m p c=false):cellAt m p c=0:=by
 unfold oy at h
 unfold cellAt
 split at h
 rename_i r hr
 rw [hr]
 simp only [Option.bind_some]
 rw [q4 (of_decide_eq_false h)]
 rfl
 rename_i hr
 rw [hr]
 rfl
theorem RW {v:Int} (h:0 ≤ p) (hr:m[p.toNat]? = some r) (hc:0 ≤ c) (hv:r[c.toNat]? = some v):cellAt m p c=v:=by
 unfold cellAt
 rw [qH h hr]
 simp only [Option.bind_some]
 rw [qH hc hv]
 rfl
theorem Wc (h:¬ (0 ≤ p∧p < m.length)):cellAt m p c=0:=L4 (AF h)
theorem Wd (h:0 ≤ p) (hr:m[p.toNat]? = some r) (hc:¬ (0 ≤ c∧c < r.length)):cellAt m p c=0:=L4 (by rw [AG h hr];exact decide_eq_false hc)
theorem sA (t:List aQ) (size:Int) (pages:Int) [Qr:Q (0 ≤ pages∧pages ≤ 1000)]:aF Tryz.prog 469 [L 2 (t.map aT),I size,I pages] (RV (.bool (kL t size pages))):=by
 refine aF.w 25 Tryz.func469 fun w g0 hM=> ?_
 have eW:=hM.1.map
 refine ck [0,1,2,21,22,23,24] [] [] (fun (i:Nat)=>[.set 7 (I i)]) (fun (i:Nat)=>[]) (fun (i:Nat)=>(i ≤ t.length)∧((t.take i).all (jb · pages)=true)) (fun (i:Nat)=>t.length - i) (0) (⟨bG _,rfl⟩) ?_
 refine ⟨hda,fun i hyp N1 bq=> ?_⟩
 have hyp:(i ≤ t.length)∧((t.take i).all (jb · pages)=true):=hyp
 have ha:=lI hyp.2
 refine len ?_
 refine aB ?_ ?_ <;> intro hb
 ·refine s6 (fun y16 Qs Qt Qu=> ?_)
  skip
  refine ah (zR _ _).k ?_
  refine aB ?_ ?_ <;> intro iz
  ·refine bq _ _ _ ?_
   exact ay (by unfold kL;rw [ha.1 _ ‹_› ‹_›];rfl)
  ·refine cg ?_
   refine bq _ _ _ ?_
   refine hY (i + 1) (⟨by omega,jD hyp.2 ‹_› ‹_›⟩)
 ·refine bq _ _ _ ?_
  refine len ?_
  exact ay (by unfold kL;rw [ha.2 (by omega)];rfl)
theorem sB (t:List aQ) (size:Int) (pages:Int) [Qr:Q (0 ≤ pages∧pages ≤ 1000)]:aF Tryz.prog 209 [L 2 (t.map aT),I size,I pages] (RV (.bool (kL t size pages))):=by
 refine aF.w 24 Tryz.func209 fun w g0 hM=> ?_
 have eW:=hM.1.map
 refine len ?_
 refine ck [0,1,2,9,10,20,21,22,23] [] [] (fun (i:Nat)=>[.set 11 (I i)]) (fun (i:Nat)=>[]) (fun (i:Nat)=>(i ≤ t.length)∧((t.take i).all (jb · pages)=true)) (fun (i:Nat)=>t.length - i) (0) (⟨bG _,rfl⟩) ?_
 refine ⟨hda,fun i hyp N1 bq=> ?_⟩
 have hyp:(i ≤ t.length)∧((t.take i).all (jb · pages)=true):=hyp
 have ha:=lI hyp.2
 refine aB ?_ ?_ <;> intro hb
 ·refine s6 (fun y13 hy13 qy13 ly13=> ?_)
  skip
  refine ah (zS _ _).k ?_
  refine aB ?_ ?_ <;> intro iz
  ·refine bq _ _ _ ?_
   exact ay (by unfold kL;rw [ha.1 _ ‹_› ‹_›];rfl)
  ·refine cg ?_
   refine bq _ _ _ ?_
   refine hY (i + 1) (⟨by omega,jD hyp.2 ‹_› ‹_›⟩)
 ·refine bq _ _ _ ?_
  refine len ?_
  exact ay (by unfold kL;rw [ha.2 (by omega)];rfl)
theorem pZ (t:List Int):aF Tryz.prog 470 [L 1 (t.map bS)] (RV (.bool (jx t))):=by
 refine aF.w 19 Tryz.func470 fun w g0 hM=> ?_
 have eW:=hM.1.map
 refine ck [0,16,17,18] [] [] (fun (i:Nat)=>[.set 3 (I i)]) (fun (i:Nat)=>[]) (fun (i:Nat)=>(i ≤ t.length)∧((t.take i).all (jX · 0 99)=true)) (fun (i:Nat)=>t.length - i) (0) (⟨bG _,rfl⟩) ?_
 refine ⟨hda,fun i hyp N1 bq=> ?_⟩
 have hyp:(i ≤ t.length)∧((t.take i).all (jX · 0 99)=true):=hyp
 have ha:=lI hyp.2
 refine len ?_
 refine aB ?_ ?_ <;> intro hb
 ·refine s6 (fun y12 hy12 qy12 ly12=> ?_)
  skip
  refine ah (aE _ _ _).k ?_
  refine aB ?_ ?_ <;> intro iz
  ·refine bq _ _ _ ?_
   exact ay (by (unfold jx;rw [ha.1 _ ‹_› (by exact decide_eq_false (by omega))];rfl))
  ·refine cg ?_
   refine bq _ _ _ ?_
   refine hY (i + 1) (⟨by omega,jD hyp.2 ‹_› (by exact decide_eq_true (by omega))⟩)
 ·refine bq _ _ _ ?_
  refine len ?_
  exact ay (by unfold jx;rw [ha.2 (by omega)];(rw [Value.bool.injEq,dX];simp;omega))
theorem tY (t:List Int):aF Tryz.prog 208 [L 1 (t.map bS)] (RV (.bool (jx t))):=by
 refine aF.w 18 Tryz.func208 fun w g0 hM=> ?_
 have eW:=hM.1.map
 refine len ?_
 refine ck [0,5,6,15,16,17] [] [] (fun (i:Nat)=>[.set 7 (I i)]) (fun (i:Nat)=>[]) (fun (i:Nat)=>(i ≤ t.length)∧((t.take i).all (jX · 0 99)=true)) (fun (i:Nat)=>t.length - i) (0) (⟨bG _,rfl⟩) ?_
 refine ⟨hda,fun i hyp N1 bq=> ?_⟩
 have hyp:(i ≤ t.length)∧((t.take i).all (jX · 0 99)=true):=hyp
 have ha:=lI hyp.2
 refine aB ?_ ?_ <;> intro hb
 ·refine s6 (fun y9 hy9 qy9 ly9=> ?_)
  skip
  refine ah (aU _ _ _).k ?_
  refine aB ?_ ?_ <;> intro iz
  ·refine bq _ _ _ ?_
   exact ay (by (unfold jx;rw [ha.1 _ ‹_› (by exact decide_eq_false (by omega))];rfl))
  ·refine cg ?_
   refine bq _ _ _ ?_
   refine hY (i + 1) (⟨by omega,jD hyp.2 ‹_› (by exact decide_eq_true (by omega))⟩)
 ·refine bq _ _ _ ?_
  refine len ?_
  exact ay (by unfold jx;rw [ha.2 (by omega)];(rw [Value.bool.injEq,dX];simp;omega))
theorem BJ (m:List (List Int)) (pages:Int):aF Tryz.prog 427 [L 1 (m.map aP),I pages] (RV (.bool (tg m pages))):=by
 refine aF.w 22 Tryz.func427 fun w g0 hM=> ?_
 have eW:=hM.1.map
 refine ck [0,1,18,19,20,21] [] [] (fun (i:Nat)=>[.set 5 (I i)]) (fun (i:Nat)=>[]) (fun (i:Nat)=>(i ≤ m.length)∧((m.take i).all jx=true)) (fun (i:Nat)=>m.length - i) (0) (⟨bG _,rfl⟩) ?_
 refine ⟨hda,fun i hyp N1 bq=> ?_⟩
 have hyp:(i ≤ m.length)∧((m.take i).all jx=true):=hyp
 have ha:=lI hyp.2
 refine len ?_
 refine aB ?_ ?_ <;> intro hb
 ·refine s6 (fun y14 YP YQ YR=> ?_)
  skip
  refine ah (pZ _).k ?_
  refine aB ?_ ?_ <;> intro iz
  ·refine bq _ _ _ ?_
   exact ay (by unfold tg;rw [ha.1 _ ‹_› ‹_›];rfl)
  ·refine cg ?_
   refine bq _ _ _ ?_
   refine hY (i + 1) (⟨by omega,jD hyp.2 ‹_› ‹_›⟩)
 ·refine bq _ _ _ ?_
  refine len ?_
  exact ay (by unfold tg;rw [ha.2 (by omega)];rfl)
theorem BK (m:List (List Int)) (pages:Int):aF Tryz.prog 117 [L 1 (m.map aP),I pages] (RV (.bool (tg m pages))):=by
 refine aF.w 21 Tryz.func117 fun w g0 hM=> ?_
 have eW:=hM.1.map
 refine len ?_
 refine ck [0,1,7,8,17,18,19,20] [] [] (fun (i:Nat)=>[.set 9 (I i)]) (fun (i:Nat)=>[]) (fun (i:Nat)=>(i ≤ m.length)∧((m.take i).all jx=true)) (fun (i:Nat)=>m.length - i) (0) (⟨bG _,rfl⟩) ?_
 refine ⟨hda,fun i hyp N1 bq=> ?_⟩
 have hyp:(i ≤ m.length)∧((m.take i).all jx=true):=hyp
 have ha:=lI hyp.2
 refine aB ?_ ?_ <;> intro hb
 ·refine s6 (fun y11 hy11 qy11 ly11=> ?_)
  skip
  refine ah (tY _).k ?_
  refine aB ?_ ?_ <;> intro iz
  ·refine bq _ _ _ ?_
   exact ay (by unfold tg;rw [ha.1 _ ‹_› ‹_›];rfl)
  ·refine cg ?_
   refine bq _ _ _ ?_
   refine hY (i + 1) (⟨by omega,jD hyp.2 ‹_› ‹_›⟩)
 ·refine bq _ _ _ ?_
  refine len ?_
  exact ay (by unfold tg;rw [ha.2 (by omega)];rfl)
theorem Ja (t:List aQ) (ag:Int) [Q (eM t)]:aF Tryz.prog 483 [L 2 (t.map aT),I ag] (RL 1 ((kk t ag).map bS)):=by
 refine aF.w 26 Tryz.func483 fun w g0 hM=> ?_
 have eW:=hM.1.map
 refine ck [0,1,4,5,25] [5] [5] (fun (i:Nat)=>[.set 6 (I i)]) (fun (i:Nat)=>[(5,⟨false,[.own (.sl 1 ((dn (BF t ag) i).map bS))]⟩)]) (fun (i:Nat)=>i ≤ t.length) (fun (i:Nat)=>t.length - i) (0) (bG _) ?_
 refine ⟨hda,fun i hyp N1 bq=> ?_⟩
 have hyp:i ≤ t.length:=hyp
 have hr:= @kJ (BF t ag) i
 have ht:=(inferInstance:cX t 1048576).h
 refine len ?_
 refine aB ?_ ?_ <;> intro hb
 ·refine s6 (fun y16 Qs Qt Qu=> ?_)
  skip
  refine aB ?_ ?_ <;> intro iz
  ·refine Gt ?_
   refine cg ?_
   refine bq _ _ _ ?_
   refine hY (i + 1) (by omega) (by repeat' first|exact rfl|constructor|(refine dL ?_;simp [fX,cS,c_,BF, *];done))
  ·refine cg ?_
   refine bq _ _ _ ?_
   refine hY (i + 1) (by omega) (by repeat' first|exact rfl|constructor|(refine dL ?_;simp [fX,cS,c_,BF, *];done))
 ·refine bq _ _ _ ?_
  exact (by rw [show i=t.length by omega];rfl)
theorem Jb (t:List aQ) (ag:Int) [Q (eM t)]:aF Tryz.prog 416 [L 2 (t.map aT),I ag] (RL 1 ((kk t ag).map bS)):=by
 refine aF.w 26 Tryz.func416 fun w g0 hM=> ?_
 have eW:=hM.1.map
 refine len ?_
 refine ck [1,4,5,9,10,25] [5] [5] (fun (i:Nat)=>[.set 11 (I i)]) (fun (i:Nat)=>[(5,⟨false,[.own (.sl 1 ((dn (BF t ag) i).map bS))]⟩)]) (fun (i:Nat)=>i ≤ t.length) (fun (i:Nat)=>t.length - i) (0) (bG _) ?_
 refine ⟨hda,fun i hyp N1 bq=> ?_⟩
 have hyp:i ≤ t.length:=hyp
 have hr:= @kJ (BF t ag) i
 have ht:=(inferInstance:cX t 1048576).h
 refine aB ?_ ?_ <;> intro hb
 ·refine s6 (fun y14 YP YQ YR=> ?_)
  skip
  refine aB ?_ ?_ <;> intro iz
  ·refine Gt ?_
   refine cg ?_
   refine bq _ _ _ ?_
   refine hY (i + 1) (by omega) (by repeat' first|exact rfl|constructor|(refine dL ?_;simp [fX,cS,c_,BF, *];done))
  ·refine cg ?_
   refine bq _ _ _ ?_
   refine hY (i + 1) (by omega) (by repeat' first|exact rfl|constructor|(refine dL ?_;simp [fX,cS,c_,BF, *];done))
 ·refine bq _ _ _ ?_
  exact (by rw [show i=t.length by omega];rfl)
theorem iC (x:List Int) [Q (dP x)]:aF Tryz.prog 86 [L 1 (x.map bS)] (RL 1 (x.map bS)):=by
 refine aF.w 6 Tryz.func86 fun w g0 _=> ?_
 refine cD ?_
 exact rfl
theorem kn (x:List aQ) [Q (eM x)]:aF Tryz.prog 303 [L 2 (x.map aT)] (RL 2 (x.map aT)):=by
 refine aF.w 6 Tryz.func303 fun w g0 _=> ?_
 refine cD ?_
 exact rfl
theorem wm (x:List bZ) [Q (ju x)]:aF Tryz.prog 302 [L 2 (x.map i_)] (RL 2 (x.map i_)):=by
 refine aF.w 6 Tryz.func302 fun w g0 _=> ?_
 refine cD ?_
 exact rfl
theorem lV (m:List (List Int)) [Q (eD m)]:aF Tryz.prog 320 [L 1 (m.map aP)] (RL 1 (m.map aP)):=by
 refine aF.w 22 Tryz.func320 fun w g0 hM=> ?_
 have eW:=hM.1.map
 refine ck [0,2,3,21] [3] [3] (fun (i:Nat)=>[.set 4 (I i)]) (fun (i:Nat)=>[(3,⟨false,[.own (.sl 1 ((m.take i).map aP))]⟩)]) (fun (i:Nat)=>i ≤ m.length) (fun (i:Nat)=>m.length - i) (0) (bG _) ?_
 refine ⟨hda,fun i hyp N1 bq=> ?_⟩
 have hyp:i ≤ m.length:=hyp
 refine len ?_
 refine aB ?_ ?_ <;> intro hb
 ·refine s6 (fun y16 Qs Qt Qu=> ?_)
  skip
  refine cD ?_
  refine lH ?_
  refine cg ?_
  refine bq _ _ _ ?_
  refine hY (i + 1) (by omega)
 ·refine bq _ _ _ ?_
  exact (by rw [fu (by omega)];rfl)
theorem ko (m:List (List Int)) [Q (eD m)]:aF Tryz.prog 84 [L 1 (m.map aP)] (RL 1 (m.map aP)):=by
 refine aF.w 20 Tryz.func84 fun w g0 hM=> ?_
 have eW:=hM.1.map
 refine len ?_
 refine ck [2,3,7,8,19] [3] [3] (fun (i:Nat)=>[.set 9 (I i)]) (fun (i:Nat)=>[(3,⟨false,[.own (.sl 1 ((m.take i).map aP))]⟩)]) (fun (i:Nat)=>i ≤ m.length) (fun (i:Nat)=>m.length - i) (0) (bG _) ?_
 refine ⟨hda,fun i hyp N1 bq=> ?_⟩
 have hyp:i ≤ m.length:=hyp
 refine aB ?_ ?_ <;> intro hb
 ·refine s6 (fun y11 hy11 qy11 ly11=> ?_)
  skip
  refine bu (iC _).k ?_
  refine lH ?_
  refine cg ?_
  refine bq _ _ _ ?_
  refine hY (i + 1) (by omega)
 ·refine bq _ _ _ ?_
  exact (by rw [fu (by omega)];rfl)
theorem zT (m:List (List Int)) (p:Int) (c:Int) [Q (eD m)]:aF Tryz.prog 454 [L 1 (m.map aP),I p,I c] (RV (.bool (oy m p c))):=by
 refine aF.w 22 Tryz.func454 fun w g0 hM=> ?_
 have eW:=hM.1.map
 refine len ?_
 refine cg ?_
 refine ah (aE _ _ _).k ?_
 refine aB ?_ ?_ <;> intro Py
 ·refine xw (fun y16 Qs Qt Qu=> ?_)
  skip
  skip
  refine len ?_
  refine cg ?_
  refine ah (aE _ _ _).k ?_
  exact ay (by rw [AG (by omega) ‹_›];refine congrArg Value.bool ?_;rw [dX];simp;omega)
 ·exact ay (by rw [AF (by omega)])
theorem zU (m:List (List Int)) (p:Int) (c:Int) [Q (eD m)]:aF Tryz.prog 360 [L 1 (m.map aP),I p,I c] (RV (.int .i64 (cellAt m p c))):=by
 refine aF.w 19 Tryz.func360 fun w g0 hM=> ?_
 have eW:=hM.1.map
 refine ah (zT _ _ _).k ?_
 refine aB ?_ ?_ <;> intro hb
 ·exact ay (by rw [L4 ‹_›])
 ·obtain ⟨r,Qr,hr,PW,hc0,s4⟩:=DZ hb
  have XV:=(aM.1 hr).1
  refine dM ‹_› ?_
  skip
  skip
  refine xw (fun y17 hy17 qy17 ly17=> ?_)
  skip
  skip
  exact ay (by rw [RW (by omega) ‹_› (by omega) ‹_›])
theorem nj (m:List (List Int)) (p:Int) (c:Int) [Q (eD m)]:aF Tryz.prog 268 [L 1 (m.map aP),I p,I c] (RV (.int .i64 (cellAt m p c))):=by
 refine aF.w 29 Tryz.func268 fun w g0 hM=> ?_
 have eW:=hM.1.map
 refine len ?_
 refine ah (bM _ _).k ?_
 refine aB ?_ ?_ <;> intro Py
 ·exact ay (by rw [Wc (by omega)])
 ·refine xw (fun y16 Qs Qt Qu=> ?_)
  skip
  skip
  refine len ?_
  refine ah (bM _ _).k ?_
  refine aB ?_ ?_ <;> intro hb
  ·exact ay (by rw [Wd (by omega) ‹_› (by omega)])
  ·refine dM ‹_› ?_
   skip
   skip
   refine xw (fun y27 hy27 qy27 ly27=> ?_)
   skip
   skip
   exact ay (by rw [RW (by omega) ‹_› (by omega) ‹_›])
end
section
variable {c p v:Int} {m:List (List Int)} {cells:List Int} {n:Nat}
set_option maxRecDepth 100000
set_option maxHeartbeats 1000000
theorem qI (h:oy m p c=false ∨ ¬ (0 ≤ v∧v ≤ 99)):eR m p c v=m:=by
 unfold eR
 unfold oy at h
 split
 rfl
 rename_i r hr
 rw [hr] at h
 split
 rename_i hv
 have hc:¬ (0 ≤ c∧c < r.length):=by
  rcases h with h|h
  exact of_decide_eq_false h
  exact absurd (of_decide_eq_true hv) h
 rw [BG hc]
 unfold m5 at hr
 split at hr
 rename_i hp
 rw [vA hp]
 obtain ⟨h1,h2⟩:=aM.1 hr
 rw [← h2,List.set_getElem_self]
 cases hr
 rfl
theorem BL {r:List Int} (h:0 ≤ p) (hr:m[p.toNat]? = some r) (hc:0 ≤ c) (hv:0 ≤ v∧v ≤ 99):eR m p c v=m.set p.toNat (r.set c.toNat v):=by
 unfold eR
 rw [qH h hr]
 simp only
 rw [if_pos (decide_eq_true hv),vA h,vA hc]
theorem tdiv4 {a:Int} (h:a ≤ 9223372036854775807):a.tdiv 4 ≤ 9223372036854775807∧(0 ≤ a→0 ≤ a.tdiv 4):=by
 by_cases h0:0 ≤ a
 rw [Int.tdiv_eq_ediv_of_nonneg h0]
 omega
 have h1:a.tdiv 4= -((-a).tdiv 4):=by rw [Int.neg_tdiv];omega
 rw [h1,Int.tdiv_eq_ediv_of_nonneg (by omega)]
 omega
theorem GJ (h:n ≤ 24):brought n 0 24=n:=by unfold brought;rw [if_neg (by omega),if_neg (by omega)]
theorem GK {r n:Int} (h:fS r n=true):0 ≤ n∧n ≤ 3∧0 ≤ r∧r ≤ 3:=by
 simp only [fS,bh,decide_eq_true_eq] at h
 omega
theorem tq (h:¬ (0 ≤ p∧p < m.length) ∨ jx cells=false):fG m p cells=m:=by
 unfold fG
 split
 rename_i hk
 rcases h with h|h
 exact BG h
 rw [h] at hk;cases hk
 rfl
theorem BM (h:0 ≤ p) (hk:jx cells=true):fG m p cells=m.set p.toNat cells:=by unfold fG;rw [if_pos hk,vA h]
theorem wo (t:List aQ) (n:Int) (s:aQ) [Q (eM t)]:aF Tryz.prog 449 [L 2 (t.map aT),I n,A (iF s)] (RL 2 ((put t n s).map aT)):=by
 refine aF.w 21 Tryz.func449 fun w g0 hM=> ?_
 have eW:=hM.1.map
 refine cD ?_
 refine len ?_
 refine cg ?_
 refine ah (aE _ _ _).k ?_
 refine aB ?_ ?_ <;> intro hb
 refine bl ?_
 refine sn (fun z1 XP XQ XR=> ?_)
 exact (by rw [vA (by omega),bL];rfl)
 exact (by rw [BG (by omega)];rfl)
theorem wq (t:List aQ) (n:Int) (s:aQ) [Q (eM t)]:aF Tryz.prog 398 [L 2 (t.map aT),I n,A (iF s)] (RL 2 ((put t n s).map aT)):=by
 refine aF.w 19 Tryz.func398 fun w g0 hM=> ?_
 have eW:=hM.1.map
 refine bu (kn _).k ?_
 refine len ?_
 refine ah (bM _ _).k ?_
 refine aB ?_ ?_ <;> intro hb
 refine bl ?_
 refine sn (fun z1 XP XQ XR=> ?_)
 exact (by rw [vA (by omega),bL];rfl)
 exact (by rw [BG (by omega)];rfl)
theorem p5 (m:List (List Int)) (n:Int) [Q (eD m)]:aF Tryz.prog 207 [L 1 (m.map aP),I n] (RL 1 ((eZ m n).map bS)):=by
 refine aF.w 18 Tryz.func207 fun w g0 hM=> ?_
 have eW:=hM.1.map
 refine len ?_
 refine cg ?_
 refine ah (aE _ _ _).k ?_
 refine aB ?_ ?_ <;> intro hb
 ·refine Tv 4 ?_
  exact (by rw [eZ,q4 (by omega)];rfl)
 ·refine xw (fun y15 hy15 qy15 ly15=> ?_)
  skip
  refine cD ?_
  exact (by rw [eZ,qH (by omega) ‹_›];rfl)
theorem tZ (m:List (List Int)) (n:Int) [Q (eD m)]:aF Tryz.prog 187 [L 1 (m.map aP),I n] (RL 1 ((eZ m n).map bS)):=by
 refine aF.w 16 Tryz.func187 fun w g0 hM=> ?_
 have eW:=hM.1.map
 refine len ?_
 refine ah (bM _ _).k ?_
 refine aB ?_ ?_ <;> intro hb
 ·refine Tv 4 ?_
  exact (by rw [eZ,q4 (by omega)];rfl)
 ·refine xw (fun y13 hy13 qy13 ly13=> ?_)
  skip
  refine bu (iC _).k ?_
  exact (by rw [eZ,qH (by omega) ‹_›];rfl)
theorem AH (s:aQ) (t:List aQ):aF Tryz.prog 492 [A (iF s),L 2 (t.map aT)] (RP (A (iF (fI s t)))):=by
 refine aF.w 33 Tryz.func492 fun w g0 _=> ?_
 refine ah (pX _ _).k ?_
 refine ah (BH _ _).k ?_
 refine aB ?_ ?_ <;> intro gK
 refine ah (cW).k ?_
 exact (by unfold fI;(rw [if_pos (by omega)];rfl))
 refine aB ?_ ?_ <;> intro Tz
 refine ah (cW).k ?_
 exact (by unfold fI;(rw [if_pos (by omega)];rfl))
 refine aB ?_ ?_ <;> intro hb
 refine ah (cW).k ?_
 exact (by unfold fI;(rw [if_pos (by omega)];rfl))
 exact (by unfold fI;(rw [if_neg (by omega)];rfl))
theorem AI (s:aQ) (t:List aQ):aF Tryz.prog 500 [A (iF s),L 2 (t.map aT)] (RP (A (iF (fI s t)))):=by
 refine aF.w 33 Tryz.func500 fun w g0 _=> ?_
 refine ah (pY _ _).k ?_
 refine ah (BI _ _).k ?_
 refine aB ?_ ?_ <;> intro gK
 refine ah (eS).k ?_
 exact (by unfold fI;(rw [if_pos (by omega)];rfl))
 refine aB ?_ ?_ <;> intro Tz
 refine ah (eS).k ?_
 exact (by unfold fI;(rw [if_pos (by omega)];rfl))
 refine aB ?_ ?_ <;> intro hb
 refine ah (eS).k ?_
 exact (by unfold fI;(rw [if_pos (by omega)];rfl))
 exact (by unfold fI;(rw [if_neg (by omega)];rfl))
theorem uN (t:List aQ) (p:Int) (n:Int):aF Tryz.prog 456 [L 2 (t.map aT),I p,I n] (RG [.c (.v (.int .i64 ((bB t p n).getD (-1)))), .c (.v (.bool (bB t p n).isSome))]):=by
 refine aF.w 28 Tryz.func456 fun w g0 _=> ?_
 have he:= @GK (fB t p).bf n
 refine ah (pX _ _).k ?_
 refine aB ?_ ?_ <;> intro gK
 exact (by rw [show bB t p n=none from if_pos (by simp [*];done)];rfl)
 refine ah (lz _ _).k ?_
 refine aB ?_ ?_ <;> intro TB
 exact (by rw [show bB t p n=none from if_pos (by simp [*];done)];rfl)
 refine aB ?_ ?_ <;> intro hb
 exact (by rw [show bB t p n=none from if_pos (by simp [*];done)];rfl)
 exact (by rw [show bB t p n=some _ from if_neg (by simp [*];done)];rfl)
theorem mG (t:List aQ) (p:Int) (n:Int):aF Tryz.prog 392 [L 2 (t.map aT),I p,I n] (RG [.c (.v (.int .i64 ((bB t p n).getD (-1)))), .c (.v (.bool (bB t p n).isSome))]):=by
 refine aF.w 29 Tryz.func392 fun w g0 _=> ?_
 have he:= @GK (fB t p).bf n
 refine ah (pY _ _).k ?_
 refine aB ?_ ?_ <;> intro gK
 exact (by rw [show bB t p n=none from if_pos (by simp [*];done)];rfl)
 refine ah (fW _ _).k ?_
 refine aB ?_ ?_ <;> intro TB
 exact (by rw [show bB t p n=none from if_pos (by simp [*];done)];rfl)
 refine ah (aU _ _ _).k ?_
 refine aB ?_ ?_ <;> intro hb
 exact (by (rw [show bB t p n=none from if_pos (by simp_all;omega)];rfl))
 exact (by rw [show bB t p n=some _ from if_neg (by simp_all;omega)];rfl)
theorem nD (a:Int) [ha0:Q (a ≤ 9223372036854775807)]:aF Tryz.prog 358 [I a] (RV (.int .i64 (bz a))):=by
 refine aF.w 7 Tryz.func358 fun w g0 _=> ?_
 have h4:a.tdiv 4 ≤ 9223372036854775807∧(0 ≤ a→0 ≤ a.tdiv 4):=tdiv4 ha0.h
 refine aB ?_ ?_ <;> intro hb
 exact ay (by simp_all [bz];done)
 refine nz (cg ?_)
 exact ay (by simp_all [bz];omega)
theorem eT (a:Int) [ha0:Q (a ≤ 9223372036854775807)]:aF Tryz.prog 260 [I a] (RV (.int .i64 (bz a))):=by
 refine aF.w 7 Tryz.func260 fun w g0 _=> ?_
 have h4:a.tdiv 4 ≤ 9223372036854775807∧(0 ≤ a→0 ≤ a.tdiv 4):=tdiv4 ha0.h
 refine aB ?_ ?_ <;> intro hb
 exact ay (by simp_all [bz];done)
 refine nz (cg ?_)
 exact ay (by simp_all [bz];omega)
theorem nE (a:Int):aF Tryz.prog 359 [I a] (RV (.int .i64 (b6 a))):=by
 refine aF.w 7 Tryz.func359 fun w g0 _=> ?_
 refine aB ?_ ?_ <;> intro hb
 exact ay (by simp_all [b6];done)
 refine nz ?_
 exact ay (by simp_all [b6];omega)
theorem eU (a:Int):aF Tryz.prog 265 [I a] (RV (.int .i64 (b6 a))):=by
 refine aF.w 7 Tryz.func265 fun w g0 _=> ?_
 refine aB ?_ ?_ <;> intro hb
 exact ay (by simp_all [b6];done)
 refine nz ?_
 exact ay (by simp_all [b6];omega)
theorem xF (h:n ≤ 24):aF Tryz.prog 140 [I n,I 0,I 24] (RV (.int .i64 n)):=by
 have h1:=xD n 0 24
 rwa [GJ h] at h1
theorem p6 (n:Nat) (hn:n ≤ 24:=by omega):aF Tryz.prog 111 [I n] (RL 1 ((jc n).map aP)):=by
 refine aF.w 17 Tryz.func111 fun w g0 _=> ?_
 refine ah (xF hn).k ?_
 refine ck [2,3,16] [3] [3] (fun (i:Nat)=>[.set 4 (I ((n:Int) - i))]) (fun (i:Nat)=>[(3,⟨false,[.own (.sl 1 ((List.replicate i [0,0,0,0]).map aP))]⟩)]) (fun (i:Nat)=>i ≤ n) (fun (i:Nat)=>n - i) (0) (bG _) ?_
 refine ⟨hda,fun i hyp N1 bq=> ?_⟩
 have hyp:i ≤ n:=hyp
 refine aB ?_ ?_ <;> intro hb
 refine Tv 4 ?_
 refine lH ?_
 refine cg ?_
 refine bq _ _ _ ?_
 refine hY (i + 1) (by omega) (by repeat' first|exact rfl|constructor|(refine dL ?_;simp [fX,cS,c_,List.replicate_succ', *];done)|(refine dL ?_;exact congrArg (fun z:Int=>(I z:TS)) (by omega)))
 refine bq _ _ _ ?_
 exact (by rw [show i=n by omega];rfl)
theorem sC (h:n ≤ 24):aF Tryz.prog 72 [I n,I 0,I 24] (RV (.int .i64 n)):=by
 have h1:=xE n 0 24
 rwa [GJ h] at h1
theorem t_ (n:Nat) (hn:n ≤ 24:=by omega):aF Tryz.prog 82 [I n] (RL 1 ((jc n).map aP)):=by
 refine aF.w 17 Tryz.func82 fun w g0 _=> ?_
 refine ck [0,2,3,16] [3] [3] (fun (i:Nat)=>[.set 4 (I i)]) (fun (i:Nat)=>[(3,⟨false,[.own (.sl 1 ((List.replicate i [0,0,0,0]).map aP))]⟩)]) (fun (i:Nat)=>i ≤ n) (fun (i:Nat)=>n - i) (0) (bG _) ?_
 refine ⟨hda,fun i hyp N1 bq=> ?_⟩
 have hyp:i ≤ n:=hyp
 refine ah (sC hn).k ?_
 refine aB ?_ ?_ <;> intro hb
 refine Tv 4 ?_
 refine lH ?_
 refine cg ?_
 refine bq _ _ _ ?_
 refine hY (i + 1) (by omega) (by repeat' first|exact rfl|constructor|(refine dL ?_;simp [fX,cS,c_,List.replicate_succ', *];done))
 refine bq _ _ _ ?_
 exact (by rw [show i=n by omega];rfl)
end
end Go.Proofs.YtdliggkohdnipaaGreat.T
