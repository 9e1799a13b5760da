import Derived.Test.YtdliggkohdnipaaGreatRvq
set_option linter.unusedVariables false
set_option linter.unusedSimpArgs false
namespace Go.Proofs.YtdliggkohdnipaaGreat.T
open Go
section
variable {n o w:Int} {g:Nat} {u:ax} {x y:aV}
set_option maxRecDepth 100000
set_option maxHeartbeats 8000000
theorem qj {α:Type} {l:List α} {i:Nat} {x: α} (h:l[i]? = some x):l.set i x=l:=by
 apply List.ext_getElem?
 intro j
 rw [nN]
 by_cases hj:i=j
 subst hj
 rw [if_pos rfl,if_pos (aM.1 h).1,h]
 rw [if_neg hj]
theorem mon_g (x:aV) (g:Nat) (v:ax):bA { x with aa:=x.aa.set g v }= .st [.sl 2 (x.ak.map aT), .sl 1 (x.Out.map aP), .sl 1 (x.bI.map bO), .sl 15 ((x.aa.map bp).set g (.st [.sl 2 (v.Prog.map i_), .v (.int .i64 v.A), .v (.int .i64 v.Pc), .sl 2 (v.Written.map aT), .sl 2 (v.Live.map aT), .v (.int .i64 v.jv.bn), .v (.int .i64 v.jv.Post), .v (.bool v.jv.Open), .v (.int .i64 v.av), .v (.int .i64 v.Exit.Kind), .v (.int .i64 v.Exit.aN), .v (.bool v.Exit.Write), .v (.int .i64 v.Exit.N), .v (.bool v.kg), .sl 1 (v.Seen.map bS)])), .sl 1 (x.cm.map bS), .v (.int .i64 x.av), .v (.int .i64 x.bn), .sl 2 (x.Tables.map cz), .v (.int .i64 x.Own)]:=by
 show D.st [_,_,_, .sl 15 ((x.aa.set g v).map bp),_,_,_,_,_]=_
 rw [bL]
 try rfl
theorem Q0 (ms:List aV) (m:Nat) (x:aV) (g:Nat) (v:ax):(ms.set m { x with aa:=x.aa.set g v }).map bA=(ms.map bA).set m (.st [.sl 2 (x.ak.map aT), .sl 1 (x.Out.map aP), .sl 1 (x.bI.map bO), .sl 15 ((x.aa.map bp).set g (.st [.sl 2 (v.Prog.map i_), .v (.int .i64 v.A), .v (.int .i64 v.Pc), .sl 2 (v.Written.map aT), .sl 2 (v.Live.map aT), .v (.int .i64 v.jv.bn), .v (.int .i64 v.jv.Post), .v (.bool v.jv.Open), .v (.int .i64 v.av), .v (.int .i64 v.Exit.Kind), .v (.int .i64 v.Exit.aN), .v (.bool v.Exit.Write), .v (.int .i64 v.Exit.N), .v (.bool v.kg), .sl 1 (v.Seen.map bS)])), .sl 1 (x.cm.map bS), .v (.int .i64 x.av), .v (.int .i64 x.bn), .sl 2 (x.Tables.map cz), .v (.int .i64 x.Own)]):=by rw [bL,mon_g]
theorem MI (ms:List aV) (m:Nat) (x:aV) (g:Nat) (v:ax):(ms.set m { x with aa:=x.aa.set g v }).map bA=((ms.set m x).map bA).set m (.st [.sl 2 (x.ak.map aT), .sl 1 (x.Out.map aP), .sl 1 (x.bI.map bO), .sl 15 ((x.aa.map bp).set g (.st [.sl 2 (v.Prog.map i_), .v (.int .i64 v.A), .v (.int .i64 v.Pc), .sl 2 (v.Written.map aT), .sl 2 (v.Live.map aT), .v (.int .i64 v.jv.bn), .v (.int .i64 v.jv.Post), .v (.bool v.jv.Open), .v (.int .i64 v.av), .v (.int .i64 v.Exit.Kind), .v (.int .i64 v.Exit.aN), .v (.bool v.Exit.Write), .v (.int .i64 v.Exit.N), .v (.bool v.kg), .sl 1 (v.Seen.map bS)])), .sl 1 (x.cm.map bS), .v (.int .i64 x.av), .v (.int .i64 x.bn), .sl 2 (x.Tables.map cz), .v (.int .i64 x.Own)]):=by rw [← Q0,cS]
theorem Q1 (ms:List aV) (m:Nat) (x:aV):(ms.map bA).set m (.st [.sl 2 (x.ak.map aT), .sl 1 (x.Out.map aP), .sl 1 (x.bI.map bO), .sl 15 (x.aa.map bp), .sl 1 (x.cm.map bS), .v (.int .i64 x.av), .v (.int .i64 x.bn), .sl 2 (x.Tables.map cz), .v (.int .i64 (x.Own + 1))])=(ms.set m { x with Own:=x.Own + 1 }).map bA:=by rw [bL];try rfl
theorem W6 (ms:List aV) (m:Nat) (x:aV) (n:Int):((ms.set m x).map bA).set m (.st [.sl 2 (x.ak.map aT), .sl 1 (x.Out.map aP), .sl 1 (x.bI.map bO), .sl 15 (x.aa.map bp), .sl 1 (x.cm.map bS ++ [.v (.int .i64 n)]), .v (.int .i64 x.av), .v (.int .i64 x.bn), .sl 2 (x.Tables.map cz), .v (.int .i64 x.Own)])=(ms.set m { x with cm:=x.cm ++ [n] }).map bA:=by
 have e:bA { x with cm:=x.cm ++ [n] }= .st [.sl 2 (x.ak.map aT), .sl 1 (x.Out.map aP), .sl 1 (x.bI.map bO), .sl 15 (x.aa.map bp), .sl 1 (x.cm.map bS ++ [.v (.int .i64 n)]), .v (.int .i64 x.av), .v (.int .i64 x.bn), .sl 2 (x.Tables.map cz), .v (.int .i64 x.Own)]:=by
  show D.st [_,_,_,_, .sl 1 ((x.cm ++ [n]).map bS),_,_,_,_]=_
  rw [iW]
  rfl
 rw [← e, ← bL,cS]
def qR (x:aV) (o:Int):aV:=if o=2 then Kz x else x
theorem Sx (h:o=2) (h1:x.Own < 1000000000):qR x o={ x with Own:=x.Own + 1 }:=by unfold qR Kz;rw [if_pos h,if_pos h1]
theorem y8 (h:¬ o=2 ∨ ¬ x.Own < 1000000000):qR x o=x:=by
 unfold qR Kz
 rcases h with h|h
 rw [if_neg h]
 split
 rfl
 rfl
theorem O0:(qR x o).aa=x.aa∧(qR x o).cm=x.cm:=by
 unfold qR Kz
 repeat' split
 all_goals exact ⟨rfl,rfl⟩
theorem Cg (h:bt x):bt (qR x o):=by
 unfold qR Kz
 repeat' split
 all_goals exact h
theorem Sy (h:x.cm.length < 40):xC x n={ x with cm:=x.cm ++ [n] }:=if_pos h
theorem Sz (h:¬ x.cm.length < 40):xC x n=x:=if_neg h
theorem O1:(xC x n).aa=x.aa:=by
 unfold xC
 split <;> rfl
theorem H8 (h:bt x):bt (xC x n):=by
 unfold xC
 split
 exact ⟨h.1,h.2.1,h.2.2.1,h.2.2.2.1,by show (x.cm ++ [n]).length ≤ _;rw [o4];simp;omega,h.2.2.2.2.2⟩
 exact h
abbrev jU (x:aV) (u:ax) (w:Int):Int:=jY x.bn u.jv.bn (ov w)
abbrev O2 (u:ax):Int:=(cV u.Prog u.Pc).X
theorem SA (h:jU x u w=1):qZ x g u w={ x with aa:=x.aa.set g (ow u w) }:=by
 unfold qZ
 exact if_pos h
theorem MJ (h:¬ jU x u w=1) (hw:w=7):qZ x g u w={ qR x (jU x u w) with aa:=(qR x (jU x u w)).aa.set g (held u) }:=by
 unfold qZ qR
 simp only [if_neg h,if_pos hw]
theorem Q3 (h:¬ jU x u w=1) (hw:¬ w=7):qZ x g u w={ xC (qR x (jU x u w)) (O2 u) with aa:=(xC (qR x (jU x u w)) (O2 u)).aa.set g (fU u) }:=by
 unfold qZ qR
 simp only [if_neg h,if_neg hw]
def K3 (x:aV) (g:Nat) (u:ax) (w:Int):aV:=if w=6 then { x with aa:=x.aa.set g (c8 u (lR (O2 u))) } else qZ x g u w
abbrev yf (x:aV) (u:ax) (w:Int):aV:=if w=6 then x else qR x (jU x u w)
abbrev zE (y:aV) (u:ax) (w:Int):aV:=if (fC u u.jv.bn w).2=true∧w=5 then xC y (O2 u) else y
theorem Zn (hw:w=5 ∨ w=6 ∨ w=7):K3 x g u w={ zE (yf x u w) u w with aa:=(zE (yf x u w) u w).aa.set g (fC u u.jv.bn w).1 }:=by
 unfold K3
 rcases hw with rfl|rfl|rfl
 have e:ov 5=1:=rfl
 cases ht:gb u.jv.bn 1 with
 | true=>
  have ho:jU x u 5=1:=by unfold jU jY;rw [e,ht];rfl
  rw [if_neg (by decide),SA ho,QA rfl ht]
  simp only [zE,yf,if_neg (show ¬ (5:Int)=6 by decide),QA rfl ht,gD,false_and,if_false]
  rw [y8 (.inl (by rw [ho];decide))]
  rfl
 | false=>
  have ho:¬ jU x u 5=1:=by unfold jU jY;rw [e,ht];simp;split <;> decide
  rw [if_neg (by decide),Q3 ho (by decide),uO (by decide) (.inr ht)]
  simp only [zE,yf,if_neg (show ¬ (5:Int)=6 by decide),uO (x:=u) (t:=u.jv.bn) (w:=5) (by decide) (.inr ht),true_and,if_true]
 rw [if_pos rfl,Mb rfl]
 simp only [zE,yf,if_pos rfl,Mb (x:=u) (t:=u.jv.bn) (w:=6) rfl,gD,false_and,if_false]
 rfl
 have e:ov 7=2:=rfl
 cases ht:gb u.jv.bn 2 with
 | true=>
  have ho:jU x u 7=1:=by unfold jU jY;rw [e,ht];rfl
  rw [if_neg (by decide),SA ho,Fx rfl ht]
  simp only [zE,yf,if_neg (show ¬ (7:Int)=6 by decide),Fx (x:=u) (t:=u.jv.bn) (w:=7) rfl ht,gD,false_and,if_false]
  rw [y8 (.inl (by rw [ho];decide))]
  rfl
 | false=>
  have ho:¬ jU x u 7=1:=by unfold jU jY;rw [e,ht];simp;split <;> decide
  rw [if_neg (by decide),MJ ho rfl,Fy rfl ht]
  simp only [zE,yf,if_neg (show ¬ (7:Int)=6 by decide),Fy (x:=u) (t:=u.jv.bn) (w:=7) rfl ht,show ¬ (7:Int)=5 by decide,and_false,if_false]
theorem O3 (h6:¬ w=6) (h:jY x.bn u.jv.bn (if w=7 then 2 else 1)=2) (h1:x.Own < 1000000000) (hw:w=5 ∨ w=6 ∨ w=7):yf x u w={ x with Own:=x.Own + 1 }:=by
 have e:ov w=if w=7 then 2 else 1:=by
  rcases hw with rfl|rfl|rfl
  rfl
  exact absurd rfl h6
  rfl
 unfold yf
 rw [if_neg h6,Sx (by unfold jU;rw [e];exact h) h1]
theorem u7 (h:w=6 ∨ ¬ jY x.bn u.jv.bn (if w=7 then 2 else 1)=2 ∨ ¬ x.Own < 1000000000) (hw:w=5 ∨ w=6 ∨ w=7):yf x u w=x:=by
 unfold yf
 split
 rfl
 rename_i h6
 have e:ov w=if w=7 then 2 else 1:=by
  rcases hw with rfl|rfl|rfl
  rfl
  exact absurd rfl h6
  rfl
 rcases h with h|h|h
 exact absurd h h6
 exact y8 (.inl (by unfold jU;rw [e];exact h))
 exact y8 (.inr h)
theorem W7:(yf x u w).aa=x.aa∧(yf x u w).cm=x.cm:=by
 unfold yf
 split
 exact ⟨rfl,rfl⟩
 exact O0
theorem W8 (h:bt x):bt (yf x u w):=by
 unfold yf
 split
 exact h
 exact Cg h
theorem W9 (h:(fC u u.jv.bn w).2=true) (h5:w=5) (h1:y.cm.length < 40):zE y u w={ y with cm:=y.cm ++ [O2 u] }:=by
 unfold zE
 rw [if_pos ⟨h,h5⟩,Sy h1]
theorem H9 (h:(fC u u.jv.bn w).2=false ∨ ¬ w=5 ∨ ¬ y.cm.length < 40):zE y u w=y:=by
 unfold zE
 split
 rename_i h2
 rcases h with h|h|h
 rw [h2.1] at h;cases h
 exact absurd h2.2 h
 exact Sz h
 rfl
theorem W_:(zE y u w).aa=y.aa:=by
 unfold zE
 split
 exact O1
 rfl
theorem Xa (h:bt y):bt (zE y u w):=by
 unfold zE
 split
 exact H8 h
 exact h
theorem MK (ms:List aV) (m:Nat) (x:aV) (gi:Nat) (u:ax) (want:Int) [Q (xx ms)] [DE:Q (-9223372036854775808 ≤ u.Pc)] (ho:0 ≤ x.Own) (hx:ms[m]? = some x) (hu:x.aa[gi]? = some u):eH Tryz.prog 269 (⟨false,[.sl 9 (ms.map bA)]⟩) [.one (.ptr ⟨1000000,[(0,m)],0⟩),I gi,I want] (zx [.sl 9 ((ms.set m (qZ x gi u want)).map bA)] (.mj [])):=by
 refine eH.wJ 91 Tryz.func269 fun w g0 _=> ?_
 have qx:Q (bt x):=⟨jW.h x (aH hx)⟩
 have qu:Q (aJ u):=⟨jW.h u (aH hu)⟩
 have F3:=(aM.1 hx).1
 have Y2:=(aM.1 hu).1
 have hl3:m < (ms.map bA).length:=by rw [aI];exact F3
 have hl4:gi < (x.aa.map bp).length:=by rw [aI];exact Y2
 refine JW.cut 4 [0,1,2] [] [6,1000000] (fun (y:aV)=>[.set 6 (.one (.ptr ⟨6,[],0⟩))]) (fun (y:aV)=>[(6,⟨true,[.ref ⟨1000000,[(0,m),(3,gi)],0⟩, .own (.v (.int .i64 u.A)), .own (.v (.int .i64 u.Pc)), .ref ⟨1000000,[(0,m),(3,gi)],3⟩, .ref ⟨1000000,[(0,m),(3,gi)],4⟩, .own (.v (.int .i64 u.jv.bn)), .own (.v (.int .i64 u.jv.Post)), .own (.v (.bool u.jv.Open)), .own (.v (.int .i64 u.av)), .own (.v (.int .i64 u.Exit.Kind)), .own (.v (.int .i64 u.Exit.aN)), .own (.v (.bool u.Exit.Write)), .own (.v (.int .i64 u.Exit.N)), .own (.v (.bool u.kg)), .ref ⟨1000000,[(0,m),(3,gi)],14⟩]⟩),(1000000,⟨false,[.own (.sl 9 ((ms.set m y).map bA))]⟩)]) (fun (y:aV)=>y=qR x (jU x u want)∧¬ (jU x u want)=1) (by exact rfl) ?_
 refine ⟨fun J1 sY=> ?_,fun y vf=> ?_⟩
 ·refine aL ‹_› ?_
  refine aL ‹_› ?_
  refine di ?_
  refine aL ‹_› ?_
  refine aL ‹_› ?_
  refine o_ ?_
  refine aL ‹_› ?_
  refine iL (z_ want).k ?_
  refine iL (GL x.bn u.jv.bn (ov want)).k ?_
  refine aB ?_ ?_ <;> intro hb
  ·refine cI [9] [(0,0),(1,0),(2,0),(3,0),(4,0),(5,0),(6,0),(7,1),(8,0),(9,1)] ?_
   refine aL ‹_› ?_
   refine an (xQ u want).k ?_
   refine aL ‹_› ?_
   refine di ?_
   refine aL ‹_› ?_
   refine aL ‹_› ?_
   refine sY _ _ _ ?_
   exact (by rw [SA (by omega),Q0];exact ⟨rfl,rfl⟩)
  ·refine aB ?_ ?_ <;> intro oe
   ·refine aL ‹_› ?_
    refine aB ?_ ?_ <;> intro iz
    ·refine aL ‹_› ?_
     refine cg ?_
     refine aL ‹_› ?_
     refine sY _ _ _ ?_
     exact ⟨{ x with Own:=x.Own + 1 },⟨(Sx (by omega) (by omega)).symm,by omega⟩,(by repeat' first|exact rfl|constructor|(refine dL ?_;exact congrArg (fun l:List D=>(⟨false,[C.own (D.sl 9 l)]⟩:Rt)) (Q1 ms m x);done))⟩
    ·refine sY _ _ _ ?_
     exact ⟨x,⟨(y8 (by exact .inr (by omega))).symm,by omega⟩,(by repeat' first|exact rfl|constructor|(refine dL ?_;rw [qj hx];done))⟩
   ·refine sY _ _ _ ?_
    exact ⟨x,⟨(y8 (by exact .inl (by omega))).symm,by omega⟩,(by repeat' first|exact rfl|constructor|(refine dL ?_;rw [qj hx];done))⟩
 have Zo:y.aa=x.aa:=by rw [vf.1];exact O0.1
 have qy:Q (bt y):=⟨by rw [vf.1];exact Cg qx.h⟩
 have hym:(ms.set m y)[m]? = some y:=dS hx
 have Zg:m < (ms.set m y).length:=by rw [bD];exact F3
 have hyk:m < ((ms.set m y).map bA).length:=by rw [aI];exact Zg
 have hyu:y.aa[gi]? = some u:=by rw [Zo];exact hu
 have hyv:=(aM.1 hyu).1
 have hyw:gi < (y.aa.map bp).length:=by rw [aI];exact hyv
 refine JW.cut 2 [0,1,6] [] [1000000] (fun (z:aV)=>[]) (fun (z:aV)=>[(1000000,⟨false,[.own (.sl 9 ((ms.set m z).map bA))]⟩)]) (fun (z:aV)=>z=xC y (O2 u)∧¬ want=7) (by exact rfl) ?_
 refine ⟨fun J2 Dk=> ?_,fun z hj2=> ?_⟩
 ·refine aB ?_ ?_ <;> intro tr
  ·refine cI [8] [(0,0),(1,0),(2,0),(3,0),(4,0),(5,0),(6,1),(7,0),(8,1)] ?_
   refine aL ‹_› ?_
   refine an (xN u).k ?_
   refine aL ‹_› ?_
   refine di ?_
   refine aL ‹_› ?_
   refine aL ‹_› ?_
   refine Dk _ _ _ ?_
   exact (by rw [MJ vf.2 (by omega), ← vf.1,MI];exact ⟨rfl,rfl⟩)
  ·refine aL ‹_› ?_
   refine aL ‹_› ?_
   refine len ?_
   refine aB ?_ ?_ <;> intro AJ
   ·refine gp [12,15] [12] [] (.quiet 1 0 (.quiet 2 0 (.quiet 3 0 (.quiet 4 0 (.quiet 5 0 (.quiet 6 0 (.quiet 7 0 (.quiet 8 0 (.quiet 0 1 (.fa 9 (.quiet 10 0 (.fa 11 (.fa 12 (.quiet 13 0 (.quiet 14 0 (.fa 15 .done)))))))))))))))) ?_
    repeat' first|exact True.intro|refine And.intro ?_ ?_|(intro _ _)|refine cJ ?_|refine aL ‹_› ?_|refine ah (kQ u.Prog u.Pc).k ?_|refine cD ?_
    refine Dk _ _ _ ?_
    exact ⟨{ y with cm:=y.cm ++ [O2 u] },⟨(Sy (by omega)).symm,by omega⟩,(by repeat' first|exact rfl|constructor|(refine dL ?_;refine congrArg (fun l:List D=>(⟨false,[C.own (D.sl 9 l)]⟩:Rt)) ?_;rw [cS];exact W6 ms m y _;done))⟩
   ·refine Dk _ _ _ ?_
    exact ⟨y,⟨(Sz (by omega)).symm,by omega⟩,(by repeat' first|exact rfl|constructor)⟩
 have hzg:z.aa=x.aa:=by rw [hj2.1,O1];exact Zo
 have qz:Q (bt z):=⟨by rw [hj2.1];exact H8 qy.h⟩
 have hzm:(ms.set m z)[m]? = some z:=dS hx
 have hzl:m < (ms.set m z).length:=by rw [bD];exact F3
 have hzk:m < ((ms.set m z).map bA).length:=by rw [aI];exact hzl
 have hzu:z.aa[gi]? = some u:=by rw [hzg];exact hu
 have hzv:=(aM.1 hzu).1
 have hzw:gi < (z.aa.map bp).length:=by rw [aI];exact hzv
 refine JW.w ?_
 refine cI [8] [(0,0),(1,0),(2,0),(3,0),(4,0),(5,0),(6,1),(7,0),(8,1)] ?_
 refine aL ‹_› ?_
 refine an (jI u).k ?_
 refine aL ‹_› ?_
 refine di ?_
 refine aL ‹_› ?_
 refine aL ‹_› ?_
 exact (by rw [Q3 vf.2 hj2.2, ← vf.1, ← hj2.1,MI];exact ⟨rfl,rfl⟩)
theorem H_ (h:ap) (m:Nat) (x:aV) (gi:Nat) (u:ax) (want:Int) [Q (aj h)] [DE:Q (-9223372036854775808 ≤ u.Pc)] (ho:0 ≤ x.Own) (hx:h.ai[m]? = some x) (hu:x.aa[gi]? = some u) (hw:want=5 ∨ want=6 ∨ want=7):ng Tryz.prog 341 (aq h) [.one (.agg [.ref ⟨1000000,[],0⟩, .ref ⟨1000000,[],1⟩, .ref ⟨1000000,[],2⟩, .ref ⟨1000000,[],3⟩]),I m,I gi, .one (.agg [.ref ⟨1000000,[(1,m),(3,gi)],0⟩, .ro (.v (.int .i64 u.A)), .ro (.v (.int .i64 u.Pc)), .ref ⟨1000000,[(1,m),(3,gi)],3⟩, .ref ⟨1000000,[(1,m),(3,gi)],4⟩, .ro (.v (.int .i64 u.jv.bn)), .ro (.v (.int .i64 u.jv.Post)), .ro (.v (.bool u.jv.Open)), .ro (.v (.int .i64 u.av)), .ro (.v (.int .i64 u.Exit.Kind)), .ro (.v (.int .i64 u.Exit.aN)), .ro (.v (.bool u.Exit.Write)), .ro (.v (.int .i64 u.Exit.N)), .ro (.v (.bool u.kg)), .ref ⟨1000000,[(1,m),(3,gi)],14⟩]),I want] (RG [.a (aq { h with ai:=h.ai.set m (K3 x gi u want) })]):=by
 refine ng.wJ 106 Tryz.func341 fun w g0 _=> ?_
 have qx:Q (bt x):=⟨jW.h x (aH hx)⟩
 have qu:Q (aJ u):=⟨jW.h u (aH hu)⟩
 have F3:=(aM.1 hx).1
 have Y2:=(aM.1 hu).1
 have hl3:m < (h.ai.map bA).length:=by rw [aI];exact F3
 have hl4:gi < (x.aa.map bp).length:=by rw [aI];exact Y2
 refine JW.cut 4 [1,2,4] [] [5,8,10,1000000] (fun (y:aV)=>[.set 5 (.one (.ptr ⟨5,[],0⟩)), .set 8 (.one (.ptr ⟨8,[],0⟩)), .set 10 (.one (.ptr ⟨10,[],0⟩))]) (fun (y:aV)=>[(5,⟨true,[.ref ⟨1000000,[],0⟩, .ref ⟨1000000,[],1⟩, .ref ⟨1000000,[],2⟩, .ref ⟨1000000,[],3⟩]⟩),(8,⟨true,[.ref ⟨1000000,[(1,m),(3,gi)],0⟩, .own (.v (.int .i64 u.A)), .own (.v (.int .i64 u.Pc)), .ref ⟨1000000,[(1,m),(3,gi)],3⟩, .ref ⟨1000000,[(1,m),(3,gi)],4⟩, .own (.v (.int .i64 u.jv.bn)), .own (.v (.int .i64 u.jv.Post)), .own (.v (.bool u.jv.Open)), .own (.v (.int .i64 u.av)), .own (.v (.int .i64 u.Exit.Kind)), .own (.v (.int .i64 u.Exit.aN)), .own (.v (.bool u.Exit.Write)), .own (.v (.int .i64 u.Exit.N)), .own (.v (.bool u.kg)), .ref ⟨1000000,[(1,m),(3,gi)],14⟩]⟩),(10,⟨true,[.own (.sl 1 []), .own (.sl 9 []), .own (.sl 4 []), .own (.sl 4 [])]⟩),(1000000,⟨false,[.own (.sl 1 (h.au.map aP)), .own (.sl 9 ((h.ai.set m y).map bA)), .own (.sl 4 (h.Buffer.map aC)), .own (.sl 4 (h.aD.map aC))]⟩)]) (fun (y:aV)=>y=yf x u want) (by exact rfl) ?_
 refine ⟨fun J1 sY=> ?_,fun y vf=> ?_⟩
 ·refine aB ?_ ?_ <;> intro hb
  ·refine o_ ?_
   refine aB ?_ ?_ <;> intro oe
   ·refine di ?_
    refine aL ‹_› ?_
    refine iL (xG x.bn u.jv.bn _).k ?_
    refine aB ?_ ?_ <;> intro hg16
    ·refine di ?_
     refine aL ‹_› ?_
     refine aB ?_ ?_ <;> intro iz
     ·refine cI [12] [(0,0),(1,0),(2,0),(3,0),(4,0),(5,0),(6,0),(7,0),(8,0),(9,0),(10,0),(11,0),(12,1)] ?_
      refine di ?_
      refine aL ‹_› ?_
      refine cg ?_
      refine di ?_
      refine aL ‹_› ?_
      refine sY _ _ _ ?_
      exact ⟨{ x with Own:=x.Own + 1 },(O3 (by omega) (by rw [if_pos (by omega)];assumption) (by omega) hw).symm,(by repeat' first|exact rfl|constructor|(refine dL ?_;refine congrArg (fun l:List D=>(⟨false,[C.own (D.sl 1 (h.au.map aP)),C.own (D.sl 9 l),C.own (D.sl 4 (h.Buffer.map aC)),C.own (D.sl 4 (h.aD.map aC))]⟩:Rt)) ?_;exact Q1 h.ai m x;done))⟩
     ·refine sY _ _ _ ?_
      exact ⟨x,(u7 (by right;right;omega) hw).symm,(by repeat' first|exact rfl|constructor|(refine dL ?_;rw [qj hx];done))⟩
    ·refine sY _ _ _ ?_
     exact ⟨x,(u7 (by right;left;(rw [if_pos (by omega)];assumption)) hw).symm,(by repeat' first|exact rfl|constructor|(refine dL ?_;rw [qj hx];done))⟩
   ·refine sY _ _ _ ?_
    exact ⟨x,(u7 (by left;omega) hw).symm,(by repeat' first|exact rfl|constructor|(refine dL ?_;rw [qj hx];done))⟩
  ·refine o_ ?_
   refine aB ?_ ?_ <;> intro oe
   ·refine di ?_
    refine aL ‹_› ?_
    refine iL (xG x.bn u.jv.bn _).k ?_
    refine aB ?_ ?_ <;> intro hg16
    ·refine di ?_
     refine aL ‹_› ?_
     refine aB ?_ ?_ <;> intro tr
     ·refine cI [12] [(0,0),(1,0),(2,0),(3,0),(4,0),(5,0),(6,0),(7,0),(8,0),(9,0),(10,0),(11,0),(12,1)] ?_
      refine di ?_
      refine aL ‹_› ?_
      refine cg ?_
      refine di ?_
      refine aL ‹_› ?_
      refine sY _ _ _ ?_
      exact ⟨{ x with Own:=x.Own + 1 },(O3 (by omega) (by rw [if_neg (by omega)];assumption) (by omega) hw).symm,(by repeat' first|exact rfl|constructor|(refine dL ?_;refine congrArg (fun l:List D=>(⟨false,[C.own (D.sl 1 (h.au.map aP)),C.own (D.sl 9 l),C.own (D.sl 4 (h.Buffer.map aC)),C.own (D.sl 4 (h.aD.map aC))]⟩:Rt)) ?_;exact Q1 h.ai m x;done))⟩
     ·refine sY _ _ _ ?_
      exact ⟨x,(u7 (by right;right;omega) hw).symm,(by repeat' first|exact rfl|constructor|(refine dL ?_;rw [qj hx];done))⟩
    ·refine sY _ _ _ ?_
     exact ⟨x,(u7 (by right;left;(rw [if_neg (by omega)];assumption)) hw).symm,(by repeat' first|exact rfl|constructor|(refine dL ?_;rw [qj hx];done))⟩
   ·refine sY _ _ _ ?_
    exact ⟨x,(u7 (by left;omega) hw).symm,(by repeat' first|exact rfl|constructor|(refine dL ?_;rw [qj hx];done))⟩
 have Zo:y.aa=x.aa:=by rw [vf];exact W7.1
 have qy:Q (bt y):=⟨by rw [vf];exact W8 qx.h⟩
 have hym:(h.ai.set m y)[m]? = some y:=dS hx
 have Zg:m < (h.ai.set m y).length:=by rw [bD];exact F3
 have hyk:m < ((h.ai.set m y).map bA).length:=by rw [aI];exact Zg
 have hyu:y.aa[gi]? = some u:=by rw [Zo];exact hu
 have hyv:=(aM.1 hyu).1
 have hyw:gi < (y.aa.map bp).length:=by rw [aI];exact hyv
 refine JW.cut 2 [1,2,5,10] [] [12,1000000] (fun (z:aV)=>[.set 12 (.one (.ptr ⟨12,[],0⟩))]) (fun (z:aV)=>[(12,⟨true,[.own (.sl 2 ((fC u u.jv.bn want).1.Prog.map i_)), .own (.v (.int .i64 (fC u u.jv.bn want).1.A)), .own (.v (.int .i64 (fC u u.jv.bn want).1.Pc)), .own (.sl 2 ((fC u u.jv.bn want).1.Written.map aT)), .own (.sl 2 ((fC u u.jv.bn want).1.Live.map aT)), .own (.v (.int .i64 (fC u u.jv.bn want).1.jv.bn)), .own (.v (.int .i64 (fC u u.jv.bn want).1.jv.Post)), .own (.v (.bool (fC u u.jv.bn want).1.jv.Open)), .own (.v (.int .i64 (fC u u.jv.bn want).1.av)), .own (.v (.int .i64 (fC u u.jv.bn want).1.Exit.Kind)), .own (.v (.int .i64 (fC u u.jv.bn want).1.Exit.aN)), .own (.v (.bool (fC u u.jv.bn want).1.Exit.Write)), .own (.v (.int .i64 (fC u u.jv.bn want).1.Exit.N)), .own (.v (.bool (fC u u.jv.bn want).1.kg)), .own (.sl 1 ((fC u u.jv.bn want).1.Seen.map bS))]⟩),(1000000,⟨false,[.own (.sl 1 (h.au.map aP)), .own (.sl 9 ((h.ai.set m z).map bA)), .own (.sl 4 (h.Buffer.map aC)), .own (.sl 4 (h.aD.map aC))]⟩)]) (fun (z:aV)=>z=zE y u want) (by exact rfl) ?_
 refine ⟨fun J2 Dk=> ?_,fun z hj2=> ?_⟩
 ·refine an (G0 u u.jv.bn want).k ?_
  refine aB ?_ ?_ <;> intro hg1
  ·refine aB ?_ ?_ <;> intro Py
   ·refine di ?_
    refine aL ‹_› ?_
    refine aL ‹_› ?_
    refine len ?_
    refine aB ?_ ?_ <;> intro AJ
    ·refine gp [16,19] [16] [5] (.quiet 3 0 (.quiet 4 0 (.quiet 5 0 (.quiet 6 0 (.quiet 7 0 (.quiet 8 0 (.quiet 9 0 (.quiet 10 0 (.quiet 11 0 (.quiet 12 0 (.quiet 0 1 (.quiet 1 1 (.quiet 2 1 (.fa 13 (.quiet 14 0 (.fa 15 (.fa 16 (.quiet 17 0 (.quiet 18 0 (.fa 19 .done)))))))))))))))))))) ?_
     repeat' first|exact True.intro|refine And.intro ?_ ?_|(intro _ _)|refine di ?_|refine cJ ?_|refine aL ‹_› ?_|refine ah (mH u.Prog u.Pc).k ?_|refine cD ?_
     refine Dk _ _ _ ?_
     exact ⟨{ y with cm:=y.cm ++ [O2 u] },(W9 ‹_› (by omega) (by omega)).symm,(by repeat' first|exact rfl|constructor|(refine dL ?_;refine congrArg (fun l:List D=>(⟨false,[C.own (D.sl 1 (h.au.map aP)),C.own (D.sl 9 l),C.own (D.sl 4 (h.Buffer.map aC)),C.own (D.sl 4 (h.aD.map aC))]⟩:Rt)) ?_;rw [cS];exact W6 h.ai m y _;done))⟩
    ·refine Dk _ _ _ ?_
     exact ⟨y,(H9 (by right;right;omega)).symm,(by repeat' first|exact rfl|constructor)⟩
   ·refine Dk _ _ _ ?_
    exact ⟨y,(H9 (by right;left;omega)).symm,(by repeat' first|exact rfl|constructor)⟩
  ·refine Dk _ _ _ ?_
   exact ⟨y,(H9 (by left;simpa using ‹_›)).symm,(by repeat' first|exact rfl|constructor)⟩
 have hzg:z.aa=x.aa:=by rw [hj2,W_];exact Zo
 have qz:Q (bt z):=⟨by rw [hj2];exact Xa qy.h⟩
 have hzm:(h.ai.set m z)[m]? = some z:=dS hx
 have hzl:m < (h.ai.set m z).length:=by rw [bD];exact F3
 have hzk:m < ((h.ai.set m z).map bA).length:=by rw [aI];exact hzl
 have hzu:z.aa[gi]? = some u:=by rw [hzg];exact hu
 have hzv:=(aM.1 hzu).1
 have hzw:gi < (z.aa.map bp).length:=by rw [aI];exact hzv
 refine JW.w ?_
 refine cI [9] [(0,0),(1,0),(2,0),(3,0),(4,0),(5,0),(6,0),(7,0),(8,0),(9,1)] ?_
 refine di ?_
 refine aL ‹_› ?_
 refine aL ‹_› ?_
 refine di ?_
 refine aL ‹_› ?_
 refine aL ‹_› ?_
 exact (by rw [Zn hw, ← vf, ← hj2];show _=c7 [RD.a [_, .sl 9 ((h.ai.set m { z with aa:=z.aa.set gi (fC u u.jv.bn want).1 }).map bA),_,_]];rw [MI];rfl)
end
end Go.Proofs.YtdliggkohdnipaaGreat.T
