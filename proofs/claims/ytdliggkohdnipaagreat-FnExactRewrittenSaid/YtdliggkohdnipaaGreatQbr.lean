import Derived.Test.YtdliggkohdnipaaGreatRvr
set_option linter.unusedVariables false
set_option linter.unusedSimpArgs false
namespace Go.Proofs.YtdliggkohdnipaaGreat.T
open Go
section
variable {n o w:Int} {g:Nat} {u:av} {x y:aO}
set_option maxRecDepth 100000
set_option maxHeartbeats 8000000
theorem oA {α:Type} {l:List α} {i:Nat} {x: α} (h:l[i]? = some x):l.set i x=l:=by
 apply List.ext_getElem?
 intro j
 rw [List.getElem?_set]
 by_cases hj:i=j
 subst hj
 rw [if_pos rfl,if_pos (List.getElem?_eq_some_iff.1 h).1,h]
 rw [if_neg hj]
theorem mon_g (x:aO) (g:Nat) (v:av):bh { x with aa:=x.aa.set g v }= .st [.sl 2 (x.ai.map aQ), .sl 1 (x.Out.map aN), .sl 1 (x.a_.map bz), .sl 15 ((x.aa.map aY).set g (.st [.sl 2 (v.Prog.map jt), .v (.int .i64 v.A), .v (.int .i64 v.Pc), .sl 2 (v.Written.map aQ), .sl 2 (v.Live.map aQ), .v (.int .i64 v.iG.bq), .v (.int .i64 v.iG.Post), .v (.bool v.iG.Open), .v (.int .i64 v.ax), .v (.int .i64 v.Exit.Kind), .v (.int .i64 v.Exit.aJ), .v (.bool v.Exit.Write), .v (.int .i64 v.Exit.N), .v (.bool v.i_), .sl 1 (v.Seen.map bH)])), .sl 1 (x.bX.map bH), .v (.int .i64 x.ax), .v (.int .i64 x.bq), .sl 2 (x.Tables.map bS), .v (.int .i64 x.Own)]:=by
 show D.st [_,_,_, .sl 15 ((x.aa.set g v).map aY),_,_,_,_,_]=_
 rw [List.map_set]
 try rfl
theorem Pr (ms:List aO) (m:Nat) (x:aO) (g:Nat) (v:av):(ms.set m { x with aa:=x.aa.set g v }).map bh=(ms.map bh).set m (.st [.sl 2 (x.ai.map aQ), .sl 1 (x.Out.map aN), .sl 1 (x.a_.map bz), .sl 15 ((x.aa.map aY).set g (.st [.sl 2 (v.Prog.map jt), .v (.int .i64 v.A), .v (.int .i64 v.Pc), .sl 2 (v.Written.map aQ), .sl 2 (v.Live.map aQ), .v (.int .i64 v.iG.bq), .v (.int .i64 v.iG.Post), .v (.bool v.iG.Open), .v (.int .i64 v.ax), .v (.int .i64 v.Exit.Kind), .v (.int .i64 v.Exit.aJ), .v (.bool v.Exit.Write), .v (.int .i64 v.Exit.N), .v (.bool v.i_), .sl 1 (v.Seen.map bH)])), .sl 1 (x.bX.map bH), .v (.int .i64 x.ax), .v (.int .i64 x.bq), .sl 2 (x.Tables.map bS), .v (.int .i64 x.Own)]):=by rw [List.map_set,mon_g]
theorem K9 (ms:List aO) (m:Nat) (x:aO) (g:Nat) (v:av):(ms.set m { x with aa:=x.aa.set g v }).map bh=((ms.set m x).map bh).set m (.st [.sl 2 (x.ai.map aQ), .sl 1 (x.Out.map aN), .sl 1 (x.a_.map bz), .sl 15 ((x.aa.map aY).set g (.st [.sl 2 (v.Prog.map jt), .v (.int .i64 v.A), .v (.int .i64 v.Pc), .sl 2 (v.Written.map aQ), .sl 2 (v.Live.map aQ), .v (.int .i64 v.iG.bq), .v (.int .i64 v.iG.Post), .v (.bool v.iG.Open), .v (.int .i64 v.ax), .v (.int .i64 v.Exit.Kind), .v (.int .i64 v.Exit.aJ), .v (.bool v.Exit.Write), .v (.int .i64 v.Exit.N), .v (.bool v.i_), .sl 1 (v.Seen.map bH)])), .sl 1 (x.bX.map bH), .v (.int .i64 x.ax), .v (.int .i64 x.bq), .sl 2 (x.Tables.map bS), .v (.int .i64 x.Own)]):=by rw [← Pr,List.set_set]
theorem Ps (ms:List aO) (m:Nat) (x:aO):(ms.map bh).set m (.st [.sl 2 (x.ai.map aQ), .sl 1 (x.Out.map aN), .sl 1 (x.a_.map bz), .sl 15 (x.aa.map aY), .sl 1 (x.bX.map bH), .v (.int .i64 x.ax), .v (.int .i64 x.bq), .sl 2 (x.Tables.map bS), .v (.int .i64 (x.Own + 1))])=(ms.set m { x with Own:=x.Own + 1 }).map bh:=by rw [List.map_set];try rfl
theorem Ve (ms:List aO) (m:Nat) (x:aO) (n:Int):((ms.set m x).map bh).set m (.st [.sl 2 (x.ai.map aQ), .sl 1 (x.Out.map aN), .sl 1 (x.a_.map bz), .sl 15 (x.aa.map aY), .sl 1 (x.bX.map bH ++ [.v (.int .i64 n)]), .v (.int .i64 x.ax), .v (.int .i64 x.bq), .sl 2 (x.Tables.map bS), .v (.int .i64 x.Own)])=(ms.set m { x with bX:=x.bX ++ [n] }).map bh:=by
 have e:bh { x with bX:=x.bX ++ [n] }= .st [.sl 2 (x.ai.map aQ), .sl 1 (x.Out.map aN), .sl 1 (x.a_.map bz), .sl 15 (x.aa.map aY), .sl 1 (x.bX.map bH ++ [.v (.int .i64 n)]), .v (.int .i64 x.ax), .v (.int .i64 x.bq), .sl 2 (x.Tables.map bS), .v (.int .i64 x.Own)]:=by
  show D.st [_,_,_,_, .sl 1 ((x.bX ++ [n]).map bH),_,_,_,_]=_
  rw [List.map_append]
  rfl
 rw [← e, ← List.map_set,List.set_set]
def oU (x:aO) (o:Int):aO:=if o=2 then I3 x else x
theorem QY (h:o=2) (h1:x.Own < 1000000000):oU x o={ x with Own:=x.Own + 1 }:=by unfold oU I3;rw [if_pos h,if_pos h1]
theorem xp (h:¬ o=2 ∨ ¬ x.Own < 1000000000):oU x o=x:=by
 unfold oU I3
 rcases h with h|h
 rw [if_neg h]
 split
 rfl
 rfl
theorem Ns:(oU x o).aa=x.aa∧(oU x o).bX=x.bX:=by
 unfold oU I3
 repeat' split
 all_goals exact ⟨rfl,rfl⟩
theorem AY (h:bf x):bf (oU x o):=by
 unfold oU I3
 repeat' split
 all_goals exact h
theorem QZ (h:x.bX.length < 40):vB x n={ x with bX:=x.bX ++ [n] }:=if_pos h
theorem Q0 (h:¬ x.bX.length < 40):vB x n=x:=if_neg h
theorem Nt:(vB x n).aa=x.aa:=by
 unfold vB
 split <;> rfl
theorem Gj (h:bf x):bf (vB x n):=by
 unfold vB
 split
 exact ⟨h.1,h.2.1,h.2.2.1,h.2.2.2.1,by show (x.bX ++ [n]).length ≤ _;rw [List.length_append];simp;omega,h.2.2.2.2.2⟩
 exact h
abbrev jd (x:aO) (u:av) (w:Int):Int:=ji x.bq u.iG.bq (m6 w)
abbrev Nu (u:av):Int:=(cM u.Prog u.Pc).X
theorem Q1 (h:jd x u w=1):o8 x g u w={ x with aa:=x.aa.set g (m7 u w) }:=by
 unfold o8
 exact if_pos h
theorem K_ (h:¬ jd x u w=1) (hw:w=7):o8 x g u w={ oU x (jd x u w) with aa:=(oU x (jd x u w)).aa.set g (held u) }:=by
 unfold o8 oU
 simp only [if_neg h,if_pos hw]
theorem Pt (h:¬ jd x u w=1) (hw:¬ w=7):o8 x g u w={ vB (oU x (jd x u w)) (Nu u) with aa:=(vB (oU x (jd x u w)) (Nu u)).aa.set g (fj u) }:=by
 unfold o8 oU
 simp only [if_neg h,if_neg hw]
def Jo (x:aO) (g:Nat) (u:av) (w:Int):aO:=if w=6 then { x with aa:=x.aa.set g (cT u (kH (Nu u))) } else o8 x g u w
abbrev wk (x:aO) (u:av) (w:Int):aO:=if w=6 then x else oU x (jd x u w)
abbrev xO (y:aO) (u:av) (w:Int):aO:=if (eR u u.iG.bq w).2=true∧w=5 then vB y (Nu u) else y
theorem XC (hw:w=5 ∨ w=6 ∨ w=7):Jo x g u w={ xO (wk x u w) u w with aa:=(xO (wk x u w) u w).aa.set g (eR u u.iG.bq w).1 }:=by
 unfold Jo
 rcases hw with rfl|rfl|rfl
 have e:m6 5=1:=rfl
 cases ht:fA u.iG.bq 1 with
 | true=>
  have ho:jd x u 5=1:=by unfold jd ji;rw [e,ht];rfl
  rw [if_neg (by decide),Q1 ho,O0 rfl ht]
  simp only [xO,wk,if_neg (show ¬ (5:Int)=6 by decide),O0 rfl ht,Bool.false_eq_true,false_and,if_false]
  rw [xp (.inl (by rw [ho];decide))]
  rfl
 | false=>
  have ho:¬ jd x u 5=1:=by unfold jd ji;rw [e,ht];simp;split <;> decide
  rw [if_neg (by decide),Pt ho (by decide),s5 (by decide) (.inr ht)]
  simp only [xO,wk,if_neg (show ¬ (5:Int)=6 by decide),s5 (x:=u) (t:=u.iG.bq) (w:=5) (by decide) (.inr ht),true_and,if_true]
 rw [if_pos rfl,KA rfl]
 simp only [xO,wk,if_pos rfl,KA (x:=u) (t:=u.iG.bq) (w:=6) rfl,Bool.false_eq_true,false_and,if_false]
 rfl
 have e:m6 7=2:=rfl
 cases ht:fA u.iG.bq 2 with
 | true=>
  have ho:jd x u 7=1:=by unfold jd ji;rw [e,ht];rfl
  rw [if_neg (by decide),Q1 ho,DV rfl ht]
  simp only [xO,wk,if_neg (show ¬ (7:Int)=6 by decide),DV (x:=u) (t:=u.iG.bq) (w:=7) rfl ht,Bool.false_eq_true,false_and,if_false]
  rw [xp (.inl (by rw [ho];decide))]
  rfl
 | false=>
  have ho:¬ jd x u 7=1:=by unfold jd ji;rw [e,ht];simp;split <;> decide
  rw [if_neg (by decide),K_ ho rfl,DW rfl ht]
  simp only [xO,wk,if_neg (show ¬ (7:Int)=6 by decide),DW (x:=u) (t:=u.iG.bq) (w:=7) rfl ht,show ¬ (7:Int)=5 by decide,and_false,if_false]
theorem Nv (h6:¬ w=6) (h:ji x.bq u.iG.bq (if w=7 then 2 else 1)=2) (h1:x.Own < 1000000000) (hw:w=5 ∨ w=6 ∨ w=7):wk x u w={ x with Own:=x.Own + 1 }:=by
 have e:m6 w=if w=7 then 2 else 1:=by
  rcases hw with rfl|rfl|rfl
  rfl
  exact absurd rfl h6
  rfl
 unfold wk
 rw [if_neg h6,QY (by unfold jd;rw [e];exact h) h1]
theorem tj (h:w=6 ∨ ¬ ji x.bq u.iG.bq (if w=7 then 2 else 1)=2 ∨ ¬ x.Own < 1000000000) (hw:w=5 ∨ w=6 ∨ w=7):wk x u w=x:=by
 unfold wk
 split
 rfl
 rename_i h6
 have e:m6 w=if w=7 then 2 else 1:=by
  rcases hw with rfl|rfl|rfl
  rfl
  exact absurd rfl h6
  rfl
 rcases h with h|h|h
 exact absurd h h6
 exact xp (.inl (by unfold jd;rw [e];exact h))
 exact xp (.inr h)
theorem Vf:(wk x u w).aa=x.aa∧(wk x u w).bX=x.bX:=by
 unfold wk
 split
 exact ⟨rfl,rfl⟩
 exact Ns
theorem Vg (h:bf x):bf (wk x u w):=by
 unfold wk
 split
 exact h
 exact AY h
theorem Vh (h:(eR u u.iG.bq w).2=true) (h5:w=5) (h1:y.bX.length < 40):xO y u w={ y with bX:=y.bX ++ [Nu u] }:=by
 unfold xO
 rw [if_pos ⟨h,h5⟩,QZ h1]
theorem Gk (h:(eR u u.iG.bq w).2=false ∨ ¬ w=5 ∨ ¬ y.bX.length < 40):xO y u w=y:=by
 unfold xO
 split
 rename_i h2
 rcases h with h|h|h
 rw [h2.1] at h;cases h
 exact absurd h2.2 h
 exact Q0 h
 rfl
theorem Vi:(xO y u w).aa=y.aa:=by
 unfold xO
 split
 exact Nt
 rfl
theorem Vj (h:bf y):bf (xO y u w):=by
 unfold xO
 split
 exact Gj h
 exact h
theorem La (ms:List aO) (m:Nat) (x:aO) (gi:Nat) (u:av) (want:Int) [Q (tR ms)] [Ch:Q (-9223372036854775808 ≤ u.Pc)] (ho:0 ≤ x.Own) (hx:ms[m]? = some x) (hu:x.aa[gi]? = some u):eA Tryz.prog 269 (⟨false,[.sl 9 (ms.map bh)]⟩) [.one (.ptr ⟨1000000,[(0,m)],0⟩),I gi,I want] (zF [.sl 9 ((ms.set m (o8 x gi u want)).map bh)] (.lp [])):=by
 refine eA.wJ 91 Tryz.func269 fun w g0 _=> ?_
 have qx:Q (bf x):=⟨j6.h x (List.mem_of_getElem? hx)⟩
 have qu:Q (aG u):=⟨j6.h u (List.mem_of_getElem? hu)⟩
 have Hg:=(List.getElem?_eq_some_iff.1 hx).1
 have hl2:=(List.getElem?_eq_some_iff.1 hu).1
 have hl3:m < (ms.map bh).length:=by rw [List.length_map];exact Hg
 have hl4:gi < (x.aa.map aY).length:=by rw [List.length_map];exact hl2
 refine JW.cut 4 [0,1,2] [] [6,1000000] (fun (y:aO)=>[.set 6 (.one (.ptr ⟨6,[],0⟩))]) (fun (y:aO)=>[(6,⟨true,[.ref ⟨1000000,[(0,m),(3,gi)],0⟩, .own (.v (.int .i64 u.A)), .own (.v (.int .i64 u.Pc)), .ref ⟨1000000,[(0,m),(3,gi)],3⟩, .ref ⟨1000000,[(0,m),(3,gi)],4⟩, .own (.v (.int .i64 u.iG.bq)), .own (.v (.int .i64 u.iG.Post)), .own (.v (.bool u.iG.Open)), .own (.v (.int .i64 u.ax)), .own (.v (.int .i64 u.Exit.Kind)), .own (.v (.int .i64 u.Exit.aJ)), .own (.v (.bool u.Exit.Write)), .own (.v (.int .i64 u.Exit.N)), .own (.v (.bool u.i_)), .ref ⟨1000000,[(0,m),(3,gi)],14⟩]⟩),(1000000,⟨false,[.own (.sl 9 ((ms.set m y).map bh))]⟩)]) (fun (y:aO)=>y=oU x (jd x u want)∧¬ (jd x u want)=1) (by exact rfl) ?_
 refine ⟨fun J1 tn=> ?_,fun y uW=> ?_⟩
 ·refine aI (by assumption) ?_
  refine aI (by assumption) ?_
  refine cS ?_
  refine aI (by assumption) ?_
  refine aI (by assumption) ?_
  refine pM ?_
  refine aI (by assumption) ?_
  refine iQ (yl want).k ?_
  refine iQ (E9 x.bq u.iG.bq (m6 want)).k ?_
  refine aB ?_ ?_ <;> intro hb
  ·refine cJ [9] [(0,0),(1,0),(2,0),(3,0),(4,0),(5,0),(6,0),(7,1),(8,0),(9,1)] ?_
   refine aI (by assumption) ?_
   refine ak (vL u want).k ?_
   refine aI (by assumption) ?_
   refine cS ?_
   refine aI (by assumption) ?_
   refine aI (by assumption) ?_
   refine tn _ _ _ ?_
   exact (by rw [Q1 (by omega),Pr];exact ⟨rfl,rfl⟩)
  ·refine aB ?_ ?_ <;> intro mS
   ·refine aI (by assumption) ?_
    refine aB ?_ ?_ <;> intro gY
    ·refine aI (by assumption) ?_
     refine cD ?_
     refine aI (by assumption) ?_
     refine tn _ _ _ ?_
     exact ⟨{ x with Own:=x.Own + 1 },⟨(QY (by omega) (by omega)).symm,by omega⟩,(by repeat' first|exact rfl|refine And.intro ?_ ?_|exact True.intro|(refine eV ?_;exact congrArg (fun l:List D=>(⟨false,[C.own (D.sl 9 l)]⟩:Rt)) (Ps ms m x);done))⟩
    ·refine tn _ _ _ ?_
     exact ⟨x,⟨(xp (by exact .inr (by omega))).symm,by omega⟩,(by repeat' first|exact rfl|refine And.intro ?_ ?_|exact True.intro|(refine eV ?_;rw [oA hx];done))⟩
   ·refine tn _ _ _ ?_
    exact ⟨x,⟨(xp (by exact .inl (by omega))).symm,by omega⟩,(by repeat' first|exact rfl|refine And.intro ?_ ?_|exact True.intro|(refine eV ?_;rw [oA hx];done))⟩
 have XD:y.aa=x.aa:=by rw [uW.1];exact Ns.1
 have qy:Q (bf y):=⟨by rw [uW.1];exact AY qx.h⟩
 have hym:(ms.set m y)[m]? = some y:=dz hx
 have Xv:m < (ms.set m y).length:=by rw [List.length_set];exact Hg
 have hyk:m < ((ms.set m y).map bh).length:=by rw [List.length_map];exact Xv
 have hyu:y.aa[gi]? = some u:=by rw [XD];exact hu
 have hyv:=(List.getElem?_eq_some_iff.1 hyu).1
 have hyw:gi < (y.aa.map aY).length:=by rw [List.length_map];exact hyv
 refine JW.cut 2 [0,1,6] [] [1000000] (fun (z:aO)=>[]) (fun (z:aO)=>[(1000000,⟨false,[.own (.sl 9 ((ms.set m z).map bh))]⟩)]) (fun (z:aO)=>z=vB y (Nu u)∧¬ want=7) (by exact rfl) ?_
 refine ⟨fun J2 D7=> ?_,fun z hj2=> ?_⟩
 ·refine aB ?_ ?_ <;> intro tY
  ·refine cJ [8] [(0,0),(1,0),(2,0),(3,0),(4,0),(5,0),(6,1),(7,0),(8,1)] ?_
   refine aI (by assumption) ?_
   refine ak (vJ u).k ?_
   refine aI (by assumption) ?_
   refine cS ?_
   refine aI (by assumption) ?_
   refine aI (by assumption) ?_
   refine D7 _ _ _ ?_
   exact (by rw [K_ uW.2 (by omega), ← uW.1,K9];exact ⟨rfl,rfl⟩)
  ·refine aI (by assumption) ?_
   refine aI (by assumption) ?_
   refine len ?_
   refine aB ?_ ?_ <;> intro yW
   ·refine fW [12,15] [12] [] (.quiet 1 0 (.quiet 2 0 (.quiet 3 0 (.quiet 4 0 (.quiet 5 0 (.quiet 6 0 (.quiet 7 0 (.quiet 8 0 (.quiet 0 1 (.fork (.alt 9 (.quiet 10 0 (.fork (.alt 11 (.fork (.alt 12 (.quiet 13 0 (.quiet 14 0 (.fork (.alt 15 .done .stop)))) .stop)) .stop))) .stop))))))))))) ?_
    repeat' first|exact True.intro|refine And.intro ?_ ?_|(intro _ _)|refine cA ?_|refine aI (by assumption) ?_|refine ah (jU u.Prog u.Pc).k ?_|refine cB ?_
    refine D7 _ _ _ ?_
    exact ⟨{ y with bX:=y.bX ++ [Nu u] },⟨(QZ (by omega)).symm,by omega⟩,(by repeat' first|exact rfl|refine And.intro ?_ ?_|exact True.intro|(refine eV ?_;refine congrArg (fun l:List D=>(⟨false,[C.own (D.sl 9 l)]⟩:Rt)) ?_;rw [List.set_set];exact Ve ms m y _;done))⟩
   ·refine D7 _ _ _ ?_
    exact ⟨y,⟨(Q0 (by omega)).symm,by omega⟩,(by repeat' first|exact rfl|refine And.intro ?_ ?_|exact True.intro)⟩
 have hzg:z.aa=x.aa:=by rw [hj2.1,Nt];exact XD
 have qz:Q (bf z):=⟨by rw [hj2.1];exact Gj qy.h⟩
 have hzm:(ms.set m z)[m]? = some z:=dz hx
 have hzl:m < (ms.set m z).length:=by rw [List.length_set];exact Hg
 have hzk:m < ((ms.set m z).map bh).length:=by rw [List.length_map];exact hzl
 have hzu:z.aa[gi]? = some u:=by rw [hzg];exact hu
 have hzv:=(List.getElem?_eq_some_iff.1 hzu).1
 have hzw:gi < (z.aa.map aY).length:=by rw [List.length_map];exact hzv
 refine JW.w ?_
 refine cJ [8] [(0,0),(1,0),(2,0),(3,0),(4,0),(5,0),(6,1),(7,0),(8,1)] ?_
 refine aI (by assumption) ?_
 refine ak (iX u).k ?_
 refine aI (by assumption) ?_
 refine cS ?_
 refine aI (by assumption) ?_
 refine aI (by assumption) ?_
 exact (by rw [Pt uW.2 hj2.2, ← uW.1, ← hj2.1,K9];exact ⟨rfl,rfl⟩)
theorem Gl (h:an) (m:Nat) (x:aO) (gi:Nat) (u:av) (want:Int) [Q (aj h)] [Ch:Q (-9223372036854775808 ≤ u.Pc)] (ho:0 ≤ x.Own) (hx:h.ap[m]? = some x) (hu:x.aa[gi]? = some u) (hw:want=5 ∨ want=6 ∨ want=7):lO Tryz.prog 341 (aq h) [.one (.agg [.ref ⟨1000000,[],0⟩, .ref ⟨1000000,[],1⟩, .ref ⟨1000000,[],2⟩, .ref ⟨1000000,[],3⟩]),I m,I gi, .one (.agg [.ref ⟨1000000,[(1,m),(3,gi)],0⟩, .ro (.v (.int .i64 u.A)), .ro (.v (.int .i64 u.Pc)), .ref ⟨1000000,[(1,m),(3,gi)],3⟩, .ref ⟨1000000,[(1,m),(3,gi)],4⟩, .ro (.v (.int .i64 u.iG.bq)), .ro (.v (.int .i64 u.iG.Post)), .ro (.v (.bool u.iG.Open)), .ro (.v (.int .i64 u.ax)), .ro (.v (.int .i64 u.Exit.Kind)), .ro (.v (.int .i64 u.Exit.aJ)), .ro (.v (.bool u.Exit.Write)), .ro (.v (.int .i64 u.Exit.N)), .ro (.v (.bool u.i_)), .ref ⟨1000000,[(1,m),(3,gi)],14⟩]),I want] (RG [.a (aq { h with ap:=h.ap.set m (Jo x gi u want) })]):=by
 refine lO.wJ 106 Tryz.func341 fun w g0 _=> ?_
 have qx:Q (bf x):=⟨j6.h x (List.mem_of_getElem? hx)⟩
 have qu:Q (aG u):=⟨j6.h u (List.mem_of_getElem? hu)⟩
 have Hg:=(List.getElem?_eq_some_iff.1 hx).1
 have hl2:=(List.getElem?_eq_some_iff.1 hu).1
 have hl3:m < (h.ap.map bh).length:=by rw [List.length_map];exact Hg
 have hl4:gi < (x.aa.map aY).length:=by rw [List.length_map];exact hl2
 refine JW.cut 4 [1,2,4] [] [5,8,10,1000000] (fun (y:aO)=>[.set 5 (.one (.ptr ⟨5,[],0⟩)), .set 8 (.one (.ptr ⟨8,[],0⟩)), .set 10 (.one (.ptr ⟨10,[],0⟩))]) (fun (y:aO)=>[(5,⟨true,[.ref ⟨1000000,[],0⟩, .ref ⟨1000000,[],1⟩, .ref ⟨1000000,[],2⟩, .ref ⟨1000000,[],3⟩]⟩),(8,⟨true,[.ref ⟨1000000,[(1,m),(3,gi)],0⟩, .own (.v (.int .i64 u.A)), .own (.v (.int .i64 u.Pc)), .ref ⟨1000000,[(1,m),(3,gi)],3⟩, .ref ⟨1000000,[(1,m),(3,gi)],4⟩, .own (.v (.int .i64 u.iG.bq)), .own (.v (.int .i64 u.iG.Post)), .own (.v (.bool u.iG.Open)), .own (.v (.int .i64 u.ax)), .own (.v (.int .i64 u.Exit.Kind)), .own (.v (.int .i64 u.Exit.aJ)), .own (.v (.bool u.Exit.Write)), .own (.v (.int .i64 u.Exit.N)), .own (.v (.bool u.i_)), .ref ⟨1000000,[(1,m),(3,gi)],14⟩]⟩),(10,⟨true,[.own (.sl 1 []), .own (.sl 9 []), .own (.sl 4 []), .own (.sl 4 [])]⟩),(1000000,⟨false,[.own (.sl 1 (h.au.map aN)), .own (.sl 9 ((h.ap.set m y).map bh)), .own (.sl 4 (h.Buffer.map aA)), .own (.sl 4 (h.aC.map aA))]⟩)]) (fun (y:aO)=>y=wk x u want) (by exact rfl) ?_
 refine ⟨fun J1 tn=> ?_,fun y uW=> ?_⟩
 ·refine aB ?_ ?_ <;> intro hb
  ·refine pM ?_
   refine aB ?_ ?_ <;> intro mS
   ·refine cS ?_
    refine aI (by assumption) ?_
    refine iQ (vC x.bq u.iG.bq _).k ?_
    refine aB ?_ ?_ <;> intro hg16
    ·refine cS ?_
     refine aI (by assumption) ?_
     refine aB ?_ ?_ <;> intro gY
     ·refine cJ [12] [(0,0),(1,0),(2,0),(3,0),(4,0),(5,0),(6,0),(7,0),(8,0),(9,0),(10,0),(11,0),(12,1)] ?_
      refine cS ?_
      refine aI (by assumption) ?_
      refine cD ?_
      refine cS ?_
      refine aI (by assumption) ?_
      refine tn _ _ _ ?_
      exact ⟨{ x with Own:=x.Own + 1 },(Nv (by omega) (by rw [if_pos (by omega)];assumption) (by omega) hw).symm,(by repeat' first|exact rfl|refine And.intro ?_ ?_|exact True.intro|(refine eV ?_;refine congrArg (fun l:List D=>(⟨false,[C.own (D.sl 1 (h.au.map aN)),C.own (D.sl 9 l),C.own (D.sl 4 (h.Buffer.map aA)),C.own (D.sl 4 (h.aC.map aA))]⟩:Rt)) ?_;exact Ps h.ap m x;done))⟩
     ·refine tn _ _ _ ?_
      exact ⟨x,(tj (by right;right;omega) hw).symm,(by repeat' first|exact rfl|refine And.intro ?_ ?_|exact True.intro|(refine eV ?_;rw [oA hx];done))⟩
    ·refine tn _ _ _ ?_
     exact ⟨x,(tj (by right;left;(rw [if_pos (by omega)];assumption)) hw).symm,(by repeat' first|exact rfl|refine And.intro ?_ ?_|exact True.intro|(refine eV ?_;rw [oA hx];done))⟩
   ·refine tn _ _ _ ?_
    exact ⟨x,(tj (by left;omega) hw).symm,(by repeat' first|exact rfl|refine And.intro ?_ ?_|exact True.intro|(refine eV ?_;rw [oA hx];done))⟩
  ·refine pM ?_
   refine aB ?_ ?_ <;> intro mS
   ·refine cS ?_
    refine aI (by assumption) ?_
    refine iQ (vC x.bq u.iG.bq _).k ?_
    refine aB ?_ ?_ <;> intro hg16
    ·refine cS ?_
     refine aI (by assumption) ?_
     refine aB ?_ ?_ <;> intro tY
     ·refine cJ [12] [(0,0),(1,0),(2,0),(3,0),(4,0),(5,0),(6,0),(7,0),(8,0),(9,0),(10,0),(11,0),(12,1)] ?_
      refine cS ?_
      refine aI (by assumption) ?_
      refine cD ?_
      refine cS ?_
      refine aI (by assumption) ?_
      refine tn _ _ _ ?_
      exact ⟨{ x with Own:=x.Own + 1 },(Nv (by omega) (by rw [if_neg (by omega)];assumption) (by omega) hw).symm,(by repeat' first|exact rfl|refine And.intro ?_ ?_|exact True.intro|(refine eV ?_;refine congrArg (fun l:List D=>(⟨false,[C.own (D.sl 1 (h.au.map aN)),C.own (D.sl 9 l),C.own (D.sl 4 (h.Buffer.map aA)),C.own (D.sl 4 (h.aC.map aA))]⟩:Rt)) ?_;exact Ps h.ap m x;done))⟩
     ·refine tn _ _ _ ?_
      exact ⟨x,(tj (by right;right;omega) hw).symm,(by repeat' first|exact rfl|refine And.intro ?_ ?_|exact True.intro|(refine eV ?_;rw [oA hx];done))⟩
    ·refine tn _ _ _ ?_
     exact ⟨x,(tj (by right;left;(rw [if_neg (by omega)];assumption)) hw).symm,(by repeat' first|exact rfl|refine And.intro ?_ ?_|exact True.intro|(refine eV ?_;rw [oA hx];done))⟩
   ·refine tn _ _ _ ?_
    exact ⟨x,(tj (by left;omega) hw).symm,(by repeat' first|exact rfl|refine And.intro ?_ ?_|exact True.intro|(refine eV ?_;rw [oA hx];done))⟩
 have XD:y.aa=x.aa:=by rw [uW];exact Vf.1
 have qy:Q (bf y):=⟨by rw [uW];exact Vg qx.h⟩
 have hym:(h.ap.set m y)[m]? = some y:=dz hx
 have Xv:m < (h.ap.set m y).length:=by rw [List.length_set];exact Hg
 have hyk:m < ((h.ap.set m y).map bh).length:=by rw [List.length_map];exact Xv
 have hyu:y.aa[gi]? = some u:=by rw [XD];exact hu
 have hyv:=(List.getElem?_eq_some_iff.1 hyu).1
 have hyw:gi < (y.aa.map aY).length:=by rw [List.length_map];exact hyv
 refine JW.cut 2 [1,2,5,10] [] [12,1000000] (fun (z:aO)=>[.set 12 (.one (.ptr ⟨12,[],0⟩))]) (fun (z:aO)=>[(12,⟨true,[.own (.sl 2 ((eR u u.iG.bq want).1.Prog.map jt)), .own (.v (.int .i64 (eR u u.iG.bq want).1.A)), .own (.v (.int .i64 (eR u u.iG.bq want).1.Pc)), .own (.sl 2 ((eR u u.iG.bq want).1.Written.map aQ)), .own (.sl 2 ((eR u u.iG.bq want).1.Live.map aQ)), .own (.v (.int .i64 (eR u u.iG.bq want).1.iG.bq)), .own (.v (.int .i64 (eR u u.iG.bq want).1.iG.Post)), .own (.v (.bool (eR u u.iG.bq want).1.iG.Open)), .own (.v (.int .i64 (eR u u.iG.bq want).1.ax)), .own (.v (.int .i64 (eR u u.iG.bq want).1.Exit.Kind)), .own (.v (.int .i64 (eR u u.iG.bq want).1.Exit.aJ)), .own (.v (.bool (eR u u.iG.bq want).1.Exit.Write)), .own (.v (.int .i64 (eR u u.iG.bq want).1.Exit.N)), .own (.v (.bool (eR u u.iG.bq want).1.i_)), .own (.sl 1 ((eR u u.iG.bq want).1.Seen.map bH))]⟩),(1000000,⟨false,[.own (.sl 1 (h.au.map aN)), .own (.sl 9 ((h.ap.set m z).map bh)), .own (.sl 4 (h.Buffer.map aA)), .own (.sl 4 (h.aC.map aA))]⟩)]) (fun (z:aO)=>z=xO y u want) (by exact rfl) ?_
 refine ⟨fun J2 D7=> ?_,fun z hj2=> ?_⟩
 ·refine ak (Fm u u.iG.bq want).k ?_
  refine aB ?_ ?_ <;> intro hg1
  ·refine aB ?_ ?_ <;> intro OT
   ·refine cS ?_
    refine aI (by assumption) ?_
    refine aI (by assumption) ?_
    refine len ?_
    refine aB ?_ ?_ <;> intro yW
    ·refine fW [16,19] [16] [5] (.quiet 3 0 (.quiet 4 0 (.quiet 5 0 (.quiet 6 0 (.quiet 7 0 (.quiet 8 0 (.quiet 9 0 (.quiet 10 0 (.quiet 11 0 (.quiet 12 0 (.quiet 0 1 (.quiet 1 1 (.quiet 2 1 (.fork (.alt 13 (.quiet 14 0 (.fork (.alt 15 (.fork (.alt 16 (.quiet 17 0 (.quiet 18 0 (.fork (.alt 19 .done .stop)))) .stop)) .stop))) .stop))))))))))))))) ?_
     repeat' first|exact True.intro|refine And.intro ?_ ?_|(intro _ _)|refine cS ?_|refine cA ?_|refine aI (by assumption) ?_|refine ah (kZ u.Prog u.Pc).k ?_|refine cB ?_
     refine D7 _ _ _ ?_
     exact ⟨{ y with bX:=y.bX ++ [Nu u] },(Vh (by assumption) (by omega) (by omega)).symm,(by repeat' first|exact rfl|refine And.intro ?_ ?_|exact True.intro|(refine eV ?_;refine congrArg (fun l:List D=>(⟨false,[C.own (D.sl 1 (h.au.map aN)),C.own (D.sl 9 l),C.own (D.sl 4 (h.Buffer.map aA)),C.own (D.sl 4 (h.aC.map aA))]⟩:Rt)) ?_;rw [List.set_set];exact Ve h.ap m y _;done))⟩
    ·refine D7 _ _ _ ?_
     exact ⟨y,(Gk (by right;right;omega)).symm,(by repeat' first|exact rfl|refine And.intro ?_ ?_|exact True.intro)⟩
   ·refine D7 _ _ _ ?_
    exact ⟨y,(Gk (by right;left;omega)).symm,(by repeat' first|exact rfl|refine And.intro ?_ ?_|exact True.intro)⟩
  ·refine D7 _ _ _ ?_
   exact ⟨y,(Gk (by left;simpa using ‹_›)).symm,(by repeat' first|exact rfl|refine And.intro ?_ ?_|exact True.intro)⟩
 have hzg:z.aa=x.aa:=by rw [hj2,Vi];exact XD
 have qz:Q (bf z):=⟨by rw [hj2];exact Vj qy.h⟩
 have hzm:(h.ap.set m z)[m]? = some z:=dz hx
 have hzl:m < (h.ap.set m z).length:=by rw [List.length_set];exact Hg
 have hzk:m < ((h.ap.set m z).map bh).length:=by rw [List.length_map];exact hzl
 have hzu:z.aa[gi]? = some u:=by rw [hzg];exact hu
 have hzv:=(List.getElem?_eq_some_iff.1 hzu).1
 have hzw:gi < (z.aa.map aY).length:=by rw [List.length_map];exact hzv
 refine JW.w ?_
 refine cJ [9] [(0,0),(1,0),(2,0),(3,0),(4,0),(5,0),(6,0),(7,0),(8,0),(9,1)] ?_
 refine cS ?_
 refine aI (by assumption) ?_
 refine aI (by assumption) ?_
 refine cS ?_
 refine aI (by assumption) ?_
 refine aI (by assumption) ?_
 exact (by rw [XC hw, ← uW, ← hj2];show _=cR [RD.a [_, .sl 9 ((h.ap.set m { z with aa:=z.aa.set gi (eR u u.iG.bq want).1 }).map bh),_,_]];rw [K9];rfl)
end
section
variable {m:Int} {h:an}
set_option maxRecDepth 100000
set_option maxHeartbeats 8000000
theorem Lb (h:an) (m:Int) (i:Nat):l9 h m (i + 1)=l9 h m i ++ [m9 h m i]:=by
 unfold l9
 rw [List.range_succ,List.map_append]
 rfl
theorem Nw (h:an) (m:Int) (i:Nat):(l9 h m (i + 1)).map aN=(l9 h m i).map aN ++ [aN (m9 h m i)]:=by rw [Lb,List.map_append];rfl
theorem rW (h:an) (m:Int) (i:Nat):(l9 h m i).length=i:=by unfold l9;simp
theorem XE (hm:(je h m).isSome=false):ck h m=Uq:=by
 unfold ck
 cases e:je h m with
 | none=>rfl
 | some x=>rw [e] at hm;cases hm
theorem Vk (hm:(je h m).isSome=true):ck h m=⟨l9 h m 8,(dx h m).aa,(dx h m).bX,(dx h m).ax⟩:=by
 unfold ck dx
 cases e:je h m with
 | none=>rw [e] at hm;cases hm
 | some x=>rfl
theorem XF {n:Int} (hh:aj h):(m9 h m n).length ≤ 1048576:=by
 have h4:([0,0,0,0]:List Int).length ≤ 1048576:=by decide
 have hat:∀ {l:List (List Int)} {i:Int},dY l→(eo l i).length ≤ 1048576:=fun {l i} hl=>by
  unfold eo
  cases e:kS l i with
  | none=>exact h4
  | some r=>exact hl.2 r (at_mem e)
 unfold m9
 cases e:je h m with
 | none=>exact h4
 | some x=>
  simp only
  split
  split
  exact hat hh.1
  exact hat (hh.2.1.2 x (at_mem e)).2.1
  exact h4
theorem tq (hh:aj h):aW (ck h m):=by
 unfold ck
 cases e:je h m with
 | none=>exact ⟨⟨by simp,fun x hx=>by cases hx⟩,⟨by simp,fun x hx=>by cases hx⟩,by simp [c4]⟩
 | some x=>
  have hx:=hh.2.1.2 x (at_mem e)
  refine ⟨⟨by rw [rW];decide,fun y hy=> ?_⟩,hx.2.2.2.1,hx.2.2.2.2.1⟩
  obtain ⟨k,_,rfl⟩:=List.mem_map.1 hy
  exact XF hh
instance (h:an) (m:Int) [hh:Q (aj h)]:Q (aW (ck h m)):=⟨tq hh.h⟩
theorem lX (h:an) (m:Int) [Q (aj h)]:aF Tryz.prog 180 [A (aq h),I m] (RG [.a (bC (ck h m))]):=by
 refine aF.w 39 Tryz.func180 fun w g0 _=> ?_
 have hlp:=fun i=>rW h m i
 refine ak (pS h m).k ?_
 refine aB ?_ ?_ <;> intro hb
 exact (by rw [XE (by assumption)];rfl)
 refine cI [1,2,4,7] [] [7,24] (fun (i:Nat)=>[.set 8 (I i)]) (fun (i:Nat)=>[(7,⟨true,[.own (.sl 1 ((l9 h m i).map aN)), .own (.sl 15 ((dx h m).aa.map aY)), .own (.sl 1 ((dx h m).bX.map bH)), .own (.v (.int .i64 (dx h m).ax))]⟩)]) (fun (i:Nat)=>i ≤ 8) (fun (i:Nat)=>8 - i) (0) (by omega) ?_
 refine ⟨hda,fun i hyp N1 bw=> ?_⟩
 have hyp:i ≤ 8:=hyp
 have hli:dc (l9 h m i) 8:=⟨by rw [rW];omega⟩
 refine aB ?_ ?_ <;> intro gY
 refine cJ [7,9] [(0,0),(1,0),(2,0),(3,0),(4,0),(5,1),(6,1),(7,1),(8,0),(9,1)] ?_
 refine bk (Hz h m i).k ?_
 refine xX ?_
 refine cD ?_
 refine bw _ _ _ ?_
 refine iF (i + 1) (by omega) (by repeat' first|exact rfl|refine And.intro ?_ ?_|exact True.intro|(refine eV ?_;rw [Nw];exact rfl))
 refine bw _ _ _ ?_
 exact (by have XG:i=8:=(by omega);subst XG;rw [Vk (by assumption)];rfl)
end
end Go.Proofs.YtdliggkohdnipaaGreat.T
