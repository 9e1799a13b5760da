import Derived.Test.YtdliggkohdnipaaGreatHdq
set_option linter.unusedVariables false
set_option linter.unusedSimpArgs false
namespace Go.Proofs.YtdliggkohdnipaaGreat.T
open Go
set_option maxRecDepth 100000
set_option maxHeartbeats 8000000
theorem q8 (xs:List Int) (k:Int) (h1:0 ≤ k) (h2:k + eg xs ≤ 1000000000000000) (jS:dP xs):eH Tryz.prog 52 (⟨false,[.sl 1 (xs.map bS)]⟩) [.one (.c (.ref ⟨1000000,[],0⟩)),I k] (zx [.sl 1 ((kS k xs).map bS)] (I (k + eg xs))):=by
 refine eH.w 19 Tryz.func52 fun w g0 _=> ?_
 refine fw [] [] [] (fun (i:Nat)=>[.set 0 (.one (.c (.ref ⟨1000000,[],0⟩))), .set 1 (I (k + aA iw (xs.take i))), .set 5 (I i)]) (fun (i:Nat)=>[(1000000,⟨false,[.own (.sl 1 ((jB (kS k xs) xs i).map bS))]⟩)]) (fun (i:Nat)=>i ≤ xs.length) (fun (i:Nat)=>xs.length - i) (0) (by simp) ?_
 refine ⟨(uu (by repeat' first|exact rfl|constructor|(refine dL ?_;simp [aA,j9]))),fun i hyp N1 bq=> ?_⟩
 have hyp:i ≤ xs.length:=hyp
 refine len ?_
 refine dV (fun hb=> ?_) (fun hb=> ?_)
 have hi:i < xs.length:=by simpa [cT (l8 k xs)] using hb
 have hlen:xs.length ≤ 2097152:=eP (show xs.length ≤ 1048576 from jS) (by decide)
 obtain ⟨x,hx⟩:=dO (xs:=xs) (k:=i) hi
 have hcs:=cC (c:=iw) hx
 have s4:=c5 sO xs (i + 1)
 have hc0:=bN sO (xs.take i)
 have hcd:aA iw xs=eg xs:=rfl
 have hg:((jB (kS k xs) xs i).map bS)[i]? = some (bS x):=by simp [ec,mr (l8 k xs),hx]
 have hs:((jB (kS k xs) xs i).map bS).set i (bS (AU (k + aA iw (xs.take i)) x))=((jB (kS k xs) xs (i + 1)).map bS):=by rw [← mu (l8 k xs) (cU AU iw k hx),bL]
 have oG:((jB (kS k xs) xs i).map bS).length=xs.length:=by simp [cT (l8 k xs)]
 generalize ((jB (kS k xs) xs i).map bS)=L at *
 simp only [bS,AU,iw] at hg hs hcs
 generalize IZ:aA iw (xs.take i)=m at *
 refine di ?_ (by simp only [bD,oG];omega)
 refine Ax hg ?_
 refine cg ?_
 refine cg ?_
 refine bq _ _ _ ?_
 refine ur [] (i + 1) (by omega) (by repeat' first|exact rfl|constructor|(refine dL ?_;first|exact congrArg (fun z:Int=>(I z:TS)) (by rw [hcs];omega)|(simp only [cS, ← hs])))
 refine bq _ _ _ ?_
 have hn:i=xs.length:=(by simp [cT (l8 k xs)] at hb;omega)
 subst hn
 rw [mw (l8 k xs) (gL _),iV]
 exact ⟨rfl,rfl⟩
theorem uT (xs:List (List Int)) (k:Int) (h1:0 ≤ k) (h2:k + bX xs ≤ 1000000000000000) (jS:eD xs):eH Tryz.prog 136 (⟨false,[.sl 1 (xs.map aP)]⟩) [.one (.c (.ref ⟨1000000,[],0⟩)),I k] (zx [.sl 1 ((lK k xs).map aP)] (I (k + bX xs))):=by
 refine eH.w 19 Tryz.func136 fun w g0 _=> ?_
 refine fw [] [] [] (fun (i:Nat)=>[.set 0 (.one (.c (.ref ⟨1000000,[],0⟩))), .set 1 (I (k + aA eg (xs.take i))), .set 5 (I i)]) (fun (i:Nat)=>[(1000000,⟨false,[.own (.sl 1 ((jB (lK k xs) xs i).map aP))]⟩)]) (fun (i:Nat)=>i ≤ xs.length) (fun (i:Nat)=>xs.length - i) (0) (by simp) ?_
 refine ⟨(uu (by repeat' first|exact rfl|constructor|(refine dL ?_;simp [aA,j9]))),fun i hyp N1 bq=> ?_⟩
 have hyp:i ≤ xs.length:=hyp
 refine len ?_
 refine dV (fun hb=> ?_) (fun hb=> ?_)
 have hi:i < xs.length:=by simpa [cT (kA k xs)] using hb
 have hlen:xs.length ≤ 2097152:=eP (show xs.length ≤ 1048576 from jS.1) (by decide)
 obtain ⟨x,hx⟩:=dO (xs:=xs) (k:=i) hi
 have hcs:=cC (c:=eg) hx
 have s4:=c5 gR xs (i + 1)
 have hc0:=bN gR (xs.take i)
 have hcd:aA eg xs=bX xs:=rfl
 have tw:dP x:=jS.2 x (aH hx)
 have hn0:=gR x
 have hg:((jB (lK k xs) xs i).map aP)[i]? = some (aP x):=by simp [ec,mr (kA k xs),hx]
 have hs:((jB (lK k xs) xs i).map aP).set i (aP (kS (k + aA eg (xs.take i)) x))=((jB (lK k xs) xs (i + 1)).map aP):=by rw [← mu (kA k xs) (cU kS eg k hx),bL]
 have oG:((jB (lK k xs) xs i).map aP).length=xs.length:=by simp [cT (kA k xs)]
 generalize ((jB (lK k xs) xs i).map aP)=L at *
 simp only [aP] at hg hs
 generalize IZ:aA eg (xs.take i)=m at *
 refine di ?_ (by simp only [bD,oG];omega)
 refine Ax hg ?_
 refine qC 1000000 0 i 0 (q8 x ((k + m)) (by omega) (by omega) tw) ?_
 refine Ax hg ?_
 refine And.intro rfl ?_
 refine cg ?_
 refine bq _ _ _ ?_
 refine ur [] (i + 1) (by omega) (by repeat' first|exact rfl|constructor|(refine dL ?_;first|exact congrArg (fun z:Int=>(I z:TS)) (by rw [hcs];omega)|(simp only [cS, ← hs])))
 refine bq _ _ _ ?_
 have hn:i=xs.length:=(by simp [cT (kA k xs)] at hb;omega)
 subst hn
 rw [mw (kA k xs) (gL _),iV]
 exact ⟨rfl,rfl⟩
theorem mP (xs:List aQ) (k:Int) (h1:0 ≤ k) (h2:k + bF xs ≤ 1000000000000000) (jS:eM xs):eH Tryz.prog 236 (⟨false,[.sl 2 (xs.map aT)]⟩) [.one (.c (.ref ⟨1000000,[],0⟩)),I k] (zx [.sl 2 ((kT k xs).map aT)] (I (k + bF xs))):=by
 refine eH.w 27 Tryz.func236 fun w g0 _=> ?_
 refine fw [] [] [] (fun (i:Nat)=>[.set 0 (.one (.c (.ref ⟨1000000,[],0⟩))), .set 1 (I (k + aA fJ (xs.take i))), .set 5 (I i)]) (fun (i:Nat)=>[(1000000,⟨false,[.own (.sl 2 ((jB (kT k xs) xs i).map aT))]⟩)]) (fun (i:Nat)=>i ≤ xs.length) (fun (i:Nat)=>xs.length - i) (0) (by simp) ?_
 refine ⟨(uu (by repeat' first|exact rfl|constructor|(refine dL ?_;simp [aA,j9]))),fun i hyp N1 bq=> ?_⟩
 have hyp:i ≤ xs.length:=hyp
 refine len ?_
 refine dV (fun hb=> ?_) (fun hb=> ?_)
 have hi:i < xs.length:=by simpa [cT (kB k xs)] using hb
 have hlen:xs.length ≤ 2097152:=eP (show xs.length ≤ 1048576 from jS) (by decide)
 obtain ⟨x,hx⟩:=dO (xs:=xs) (k:=i) hi
 have hcs:=cC (c:=fJ) hx
 have s4:=c5 qM xs (i + 1)
 have hc0:=bN qM (xs.take i)
 have hcd:aA fJ xs=bF xs:=rfl
 have hg:((jB (kT k xs) xs i).map aT)[i]? = some (aT x):=by simp [ec,mr (kB k xs),hx]
 have hs:((jB (kT k xs) xs i).map aT).set i (aT (tA (k + aA fJ (xs.take i)) x))=((jB (kT k xs) xs (i + 1)).map aT):=by rw [← mu (kB k xs) (cU tA fJ k hx),bL]
 have oG:((jB (kT k xs) xs i).map aT).length=xs.length:=by simp [cT (kB k xs)]
 generalize ((jB (kT k xs) xs i).map aT)=L at *
 simp only [aT,iF,tA,fJ] at hg hs hcs
 generalize IZ:aA fJ (xs.take i)=m at *
 refine di ?_ (by simp only [bD,oG];omega)
 refine Ax hg ?_
 refine cg ?_
 refine di ?_ (by simp only [bD,oG];omega)
 refine cJ ?_
 refine cg ?_
 refine cg ?_
 refine bq _ _ _ ?_
 refine ur [] (i + 1) (by omega) (by repeat' first|exact rfl|constructor|(refine dL ?_;first|exact congrArg (fun z:Int=>(I z:TS)) (by rw [hcs];omega)|(simp only [cS];rw [← hs])))
 refine bq _ _ _ ?_
 have hn:i=xs.length:=(by simp [cT (kB k xs)] at hb;omega)
 subst hn
 rw [mw (kB k xs) (gL _),iV]
 exact ⟨rfl,rfl⟩
theorem uU (xs:List Bool) (k:Int) (h1:0 ≤ k) (h2:k + dU xs ≤ 1000000000000000) (jS:ou xs):eH Tryz.prog 237 (⟨false,[.sl 1 (xs.map bO)]⟩) [.one (.c (.ref ⟨1000000,[],0⟩)),I k] (zx [.sl 1 ((mM k xs).map bO)] (I (k + dU xs))):=by
 refine eH.w 21 Tryz.func237 fun w g0 _=> ?_
 refine fw [] [] [] (fun (i:Nat)=>[.set 0 (.one (.c (.ref ⟨1000000,[],0⟩))), .set 1 (I (k + aA fK (xs.take i))), .set 5 (I i)]) (fun (i:Nat)=>[(1000000,⟨false,[.own (.sl 1 ((jB (mM k xs) xs i).map bO))]⟩)]) (fun (i:Nat)=>i ≤ xs.length) (fun (i:Nat)=>xs.length - i) (0) (by simp) ?_
 refine ⟨(uu (by repeat' first|exact rfl|constructor|(refine dL ?_;simp [aA,j9]))),fun i hyp N1 bq=> ?_⟩
 have hyp:i ≤ xs.length:=hyp
 refine len ?_
 refine dV (fun hb=> ?_) (fun hb=> ?_)
 have hi:i < xs.length:=by simpa [cT (kC k xs)] using hb
 have hlen:xs.length ≤ 2097152:=eP (show xs.length ≤ 1048576 from jS) (by decide)
 obtain ⟨x,hx⟩:=dO (xs:=xs) (k:=i) hi
 have hcs:=cC (c:=fK) hx
 have s4:=c5 qN xs (i + 1)
 have hc0:=bN qN (xs.take i)
 have hcd:aA fK xs=dU xs:=rfl
 have hg:((jB (mM k xs) xs i).map bO)[i]? = some (bO x):=by simp [ec,mr (kC k xs),hx]
 have hs:((jB (mM k xs) xs i).map bO).set i (bO (vI (k + aA fK (xs.take i)) x))=((jB (mM k xs) xs (i + 1)).map bO):=by rw [← mu (kC k xs) (cU vI fK k hx),bL]
 have oG:((jB (mM k xs) xs i).map bO).length=xs.length:=by simp [cT (kC k xs)]
 generalize ((jB (mM k xs) xs i).map bO)=L at *
 simp only [bO,vI,fK] at hg hs hcs
 generalize IZ:aA fK (xs.take i)=m at *
 refine nz ?_
 refine di ?_ (by simp only [bD,oG];omega)
 refine Ax hg ?_
 refine cg ?_
 refine cg ?_
 refine bq _ _ _ ?_
 refine ur [] (i + 1) (by omega) (by repeat' first|exact rfl|constructor|(refine dL ?_;first|exact congrArg (fun z:Int=>(I z:TS)) (by rw [hcs];omega)|(simp only [cS, ← hs])))
 refine bq _ _ _ ?_
 have hn:i=xs.length:=(by simp [cT (kC k xs)] at hb;omega)
 subst hn
 rw [mw (kC k xs) (gL _),iV]
 exact ⟨rfl,rfl⟩
theorem wE (xs:List bZ) (k:Int) (h1:0 ≤ k) (h2:k + cQ xs ≤ 1000000000000000) (jS:ju xs):eH Tryz.prog 245 (⟨false,[.sl 2 (xs.map i_)]⟩) [.one (.c (.ref ⟨1000000,[],0⟩)),I k] (zx [.sl 2 ((nX k xs).map i_)] (I (k + cQ xs))):=by
 refine eH.w 27 Tryz.func245 fun w g0 _=> ?_
 refine fw [] [] [] (fun (i:Nat)=>[.set 0 (.one (.c (.ref ⟨1000000,[],0⟩))), .set 1 (I (k + aA gG (xs.take i))), .set 5 (I i)]) (fun (i:Nat)=>[(1000000,⟨false,[.own (.sl 2 ((jB (nX k xs) xs i).map i_))]⟩)]) (fun (i:Nat)=>i ≤ xs.length) (fun (i:Nat)=>xs.length - i) (0) (by simp) ?_
 refine ⟨(uu (by repeat' first|exact rfl|constructor|(refine dL ?_;simp [aA,j9]))),fun i hyp N1 bq=> ?_⟩
 have hyp:i ≤ xs.length:=hyp
 refine len ?_
 refine dV (fun hb=> ?_) (fun hb=> ?_)
 have hi:i < xs.length:=by simpa [cT (l_ k xs)] using hb
 have hlen:xs.length ≤ 2097152:=eP (show xs.length ≤ 1048576 from jS) (by decide)
 obtain ⟨x,hx⟩:=dO (xs:=xs) (k:=i) hi
 have hcs:=cC (c:=gG) hx
 have s4:=c5 sP xs (i + 1)
 have hc0:=bN sP (xs.take i)
 have hcd:aA gG xs=cQ xs:=rfl
 have hg:((jB (nX k xs) xs i).map i_)[i]? = some (i_ x):=by simp [ec,mr (l_ k xs),hx]
 have hs:((jB (nX k xs) xs i).map i_).set i (i_ (x7 (k + aA gG (xs.take i)) x))=((jB (nX k xs) xs (i + 1)).map i_):=by rw [← mu (l_ k xs) (cU x7 gG k hx),bL]
 have oG:((jB (nX k xs) xs i).map i_).length=xs.length:=by simp [cT (l_ k xs)]
 generalize ((jB (nX k xs) xs i).map i_)=L at *
 simp only [i_,Eo,x7,gG] at hg hs hcs
 generalize IZ:aA gG (xs.take i)=m at *
 refine di ?_ (by simp only [bD,oG];omega)
 refine Ax hg ?_
 refine cg ?_
 refine di ?_ (by simp only [bD,oG];omega)
 refine cJ ?_
 refine cg ?_
 refine cg ?_
 refine bq _ _ _ ?_
 refine ur [] (i + 1) (by omega) (by repeat' first|exact rfl|constructor|(refine dL ?_;first|exact congrArg (fun z:Int=>(I z:TS)) (by rw [hcs];omega)|(simp only [cS];rw [← hs])))
 refine bq _ _ _ ?_
 have hn:i=xs.length:=(by simp [cT (l_ k xs)] at hb;omega)
 subst hn
 rw [mw (l_ k xs) (gL _),iV]
 exact ⟨rfl,rfl⟩
theorem BY (xs:List ax) (k:Int) (h1:0 ≤ k) (h2:k + eI xs ≤ 1000000000000000) (jS:ki xs):eH Tryz.prog 238 (⟨false,[.sl 15 (xs.map bp)]⟩) [.one (.c (.ref ⟨1000000,[],0⟩)),I k] (zx [.sl 15 ((ld k xs).map bp)] (I (k + eI xs))):=by
 refine eH.w 131 Tryz.func238 fun w g0 _=> ?_
 refine fw [] [] [] (fun (i:Nat)=>[.set 0 (.one (.c (.ref ⟨1000000,[],0⟩))), .set 1 (I (k + aA ey (xs.take i))), .set 5 (I i)]) (fun (i:Nat)=>[(1000000,⟨false,[.own (.sl 15 ((jB (ld k xs) xs i).map bp))]⟩)]) (fun (i:Nat)=>i ≤ xs.length) (fun (i:Nat)=>xs.length - i) (0) (by simp) ?_
 refine ⟨(uu (by repeat' first|exact rfl|constructor|(refine dL ?_;simp [aA,j9]))),fun i hyp N1 bq=> ?_⟩
 have hyp:i ≤ xs.length:=hyp
 refine len ?_
 refine dV (fun hb=> ?_) (fun hb=> ?_)
 have hi:i < xs.length:=by simpa [cT (jK k xs)] using hb
 have hlen:xs.length ≤ 2097152:=eP (show xs.length ≤ 1048576 from jS.1) (by decide)
 obtain ⟨x,hx⟩:=dO (xs:=xs) (k:=i) hi
 have hcs:=cC (c:=ey) hx
 have s4:=c5 oC xs (i + 1)
 have hc0:=bN oC (xs.take i)
 have hcd:aA ey xs=eI xs:=rfl
 have tw:aJ x:=jS.2 x (aH hx)
 have hn0:=nY x.Prog
 have hn1:=gB x.Written
 have hn2:=gB x.Live
 have hn3:=gR x.Seen
 have hg:((jB (ld k xs) xs i).map bp)[i]? = some (bp x):=by simp [ec,mr (jK k xs),hx]
 have hs:((jB (ld k xs) xs i).map bp).set i (bp (fo (k + aA ey (xs.take i)) x))=((jB (ld k xs) xs (i + 1)).map bp):=by rw [← mu (jK k xs) (cU fo ey k hx),bL]
 have oG:((jB (ld k xs) xs i).map bp).length=xs.length:=by simp [cT (jK k xs)]
 generalize ((jB (ld k xs) xs i).map bp)=L at *
 simp only [bp,bK,fo,ey] at hg hs hcs
 generalize IZ:aA ey (xs.take i)=m at *
 refine di ?_ (by simp only [bD,oG];omega)
 refine Ax hg ?_
 refine qC 1000000 0 i 0 (wE x.Prog ((k + m)) (by omega) (by omega) (tw.1)) ?_
 refine Ax hg ?_
 refine And.intro rfl ?_
 refine di ?_ (by simp only [bD,oG];omega)
 refine cJ ?_
 refine cg ?_
 refine di ?_ (by simp only [bD,oG];omega)
 refine cJ ?_
 refine cg ?_
 refine di ?_ (by simp only [bD,oG];omega)
 refine cJ ?_
 refine qC 1000000 0 i 3 (mP x.Written ((k + m) + cQ x.Prog + 1 + 1) (by omega) (by omega) (tw.2.1)) ?_
 refine cJ ?_
 refine And.intro rfl ?_
 refine di ?_ (by simp only [bD,oG];omega)
 refine cJ ?_
 refine qC 1000000 0 i 4 (mP x.Live ((k + m) + cQ x.Prog + 1 + 1 + bF x.Written) (by omega) (by omega) (tw.2.2.1)) ?_
 refine cJ ?_
 refine And.intro rfl ?_
 refine di ?_ (by simp only [bD,oG];omega)
 refine cJ ?_
 refine cg ?_
 refine di ?_ (by simp only [bD,oG];omega)
 refine cJ ?_
 refine cg ?_
 refine nz ?_
 refine di ?_ (by simp only [bD,oG];omega)
 refine cJ ?_
 refine cg ?_
 refine di ?_ (by simp only [bD,oG];omega)
 refine cJ ?_
 refine cg ?_
 refine di ?_ (by simp only [bD,oG];omega)
 refine cJ ?_
 refine cg ?_
 refine di ?_ (by simp only [bD,oG];omega)
 refine cJ ?_
 refine cg ?_
 refine nz ?_
 refine di ?_ (by simp only [bD,oG];omega)
 refine cJ ?_
 refine cg ?_
 refine di ?_ (by simp only [bD,oG];omega)
 refine cJ ?_
 refine cg ?_
 refine nz ?_
 refine di ?_ (by simp only [bD,oG];omega)
 refine cJ ?_
 refine cg ?_
 refine di ?_ (by simp only [bD,oG];omega)
 refine cJ ?_
 refine qC 1000000 0 i 14 (q8 x.Seen ((k + m) + cQ x.Prog + 1 + 1 + bF x.Written + bF x.Live + 1 + 1 + 1 + 1 + 1 + 1 + 1 + 1 + 1) (by omega) (by omega) (tw.2.2.2)) ?_
 refine cJ ?_
 refine And.intro rfl ?_
 refine cg ?_
 refine bq _ _ _ ?_
 refine ur [] (i + 1) (by omega) (by repeat' first|exact rfl|constructor|(refine dL ?_;first|exact congrArg (fun z:Int=>(I z:TS)) (by rw [hcs];omega)|(simp only [cS];rw [← hs])))
 refine bq _ _ _ ?_
 have hn:i=xs.length:=(by simp [cT (jK k xs)] at hb;omega)
 subst hn
 rw [mw (jK k xs) (gL _),iV]
 exact ⟨rfl,rfl⟩
theorem C9 (xs:List cE) (k:Int) (h1:0 ≤ k) (h2:k + lf xs ≤ 1000000000000000) (jS:tf xs):eH Tryz.prog 239 (⟨false,[.sl 2 (xs.map cz)]⟩) [.one (.c (.ref ⟨1000000,[],0⟩)),I k] (zx [.sl 2 ((nK k xs).map cz)] (I (k + lf xs))):=by
 refine eH.w 27 Tryz.func239 fun w g0 _=> ?_
 refine fw [] [] [] (fun (i:Nat)=>[.set 0 (.one (.c (.ref ⟨1000000,[],0⟩))), .set 1 (I (k + aA fL (xs.take i))), .set 5 (I i)]) (fun (i:Nat)=>[(1000000,⟨false,[.own (.sl 2 ((jB (nK k xs) xs i).map cz))]⟩)]) (fun (i:Nat)=>i ≤ xs.length) (fun (i:Nat)=>xs.length - i) (0) (by simp) ?_
 refine ⟨(uu (by repeat' first|exact rfl|constructor|(refine dL ?_;simp [aA,j9]))),fun i hyp N1 bq=> ?_⟩
 have hyp:i ≤ xs.length:=hyp
 refine len ?_
 refine dV (fun hb=> ?_) (fun hb=> ?_)
 have hi:i < xs.length:=by simpa [cT (kD k xs)] using hb
 have hlen:xs.length ≤ 2097152:=eP (show xs.length ≤ 1048576 from jS.1) (by decide)
 obtain ⟨x,hx⟩:=dO (xs:=xs) (k:=i) hi
 have hcs:=cC (c:=fL) hx
 have s4:=c5 qO xs (i + 1)
 have hc0:=bN qO (xs.take i)
 have hcd:aA fL xs=lf xs:=rfl
 have tw:dR x:=jS.2 x (aH hx)
 have hn0:=n8 x.cG
 have hn1:=gB x.dQ
 have hg:((jB (nK k xs) xs i).map cz)[i]? = some (cz x):=by simp [ec,mr (kD k xs),hx]
 have hs:((jB (nK k xs) xs i).map cz).set i (cz (tB (k + aA fL (xs.take i)) x))=((jB (nK k xs) xs (i + 1)).map cz):=by rw [← mu (kD k xs) (cU tB fL k hx),bL]
 have oG:((jB (nK k xs) xs i).map cz).length=xs.length:=by simp [cT (kD k xs)]
 generalize ((jB (nK k xs) xs i).map cz)=L at *
 simp only [cz,ia,tB,fL] at hg hs hcs
 generalize IZ:aA fL (xs.take i)=m at *
 refine di ?_ (by simp only [bD,oG];omega)
 refine Ax hg ?_
 refine qC 1000000 0 i 0 (uU x.cG ((k + m)) (by omega) (by omega) (tw.1)) ?_
 refine Ax hg ?_
 refine And.intro rfl ?_
 refine di ?_ (by simp only [bD,oG];omega)
 refine cJ ?_
 refine qC 1000000 0 i 1 (mP x.dQ ((k + m) + dU x.cG) (by omega) (by omega) (tw.2)) ?_
 refine cJ ?_
 refine And.intro rfl ?_
 refine cg ?_
 refine bq _ _ _ ?_
 refine ur [] (i + 1) (by omega) (by repeat' first|exact rfl|constructor|(refine dL ?_;first|exact congrArg (fun z:Int=>(I z:TS)) (by rw [hcs];omega)|(simp only [cS];rw [← hs])))
 refine bq _ _ _ ?_
 have hn:i=xs.length:=(by simp [cT (kD k xs)] at hb;omega)
 subst hn
 rw [mw (kD k xs) (gL _),iV]
 exact ⟨rfl,rfl⟩
theorem EA (xs:List aV) (k:Int) (h1:0 ≤ k) (h2:k + gv xs ≤ 1000000000000000) (jS:xx xs):eH Tryz.prog 137 (⟨false,[.sl 9 (xs.map bA)]⟩) [.one (.c (.ref ⟨1000000,[],0⟩)),I k] (zx [.sl 9 ((pE k xs).map bA)] (I (k + gv xs))):=by
 refine eH.w 76 Tryz.func137 fun w g0 _=> ?_
 refine fw [] [] [] (fun (i:Nat)=>[.set 0 (.one (.c (.ref ⟨1000000,[],0⟩))), .set 1 (I (k + aA ix (xs.take i))), .set 5 (I i)]) (fun (i:Nat)=>[(1000000,⟨false,[.own (.sl 9 ((jB (pE k xs) xs i).map bA))]⟩)]) (fun (i:Nat)=>i ≤ xs.length) (fun (i:Nat)=>xs.length - i) (0) (by simp) ?_
 refine ⟨(uu (by repeat' first|exact rfl|constructor|(refine dL ?_;simp [aA,j9]))),fun i hyp N1 bq=> ?_⟩
 have hyp:i ≤ xs.length:=hyp
 refine len ?_
 refine dV (fun hb=> ?_) (fun hb=> ?_)
 have hi:i < xs.length:=by simpa [cT (mb k xs)] using hb
 have hlen:xs.length ≤ 2097152:=eP (show xs.length ≤ 1048576 from jS.1) (by decide)
 obtain ⟨x,hx⟩:=dO (xs:=xs) (k:=i) hi
 have hcs:=cC (c:=ix) hx
 have s4:=c5 sQ xs (i + 1)
 have hc0:=bN sQ (xs.take i)
 have hcd:aA ix xs=gv xs:=rfl
 have tw:bt x:=jS.2 x (aH hx)
 have hn0:=gB x.ak
 have hn1:=l9 x.Out
 have hn2:=n8 x.bI
 have hn3:=vJ x.aa
 have hn4:=gR x.cm
 have hn5:=x9 x.Tables
 have hg:((jB (pE k xs) xs i).map bA)[i]? = some (bA x):=by simp [ec,mr (mb k xs),hx]
 have hs:((jB (pE k xs) xs i).map bA).set i (bA (nZ (k + aA ix (xs.take i)) x))=((jB (pE k xs) xs (i + 1)).map bA):=by rw [← mu (mb k xs) (cU nZ ix k hx),bL]
 have oG:((jB (pE k xs) xs i).map bA).length=xs.length:=by simp [cT (mb k xs)]
 generalize ((jB (pE k xs) xs i).map bA)=L at *
 simp only [bA,vv,nZ,ix] at hg hs hcs
 generalize IZ:aA ix (xs.take i)=m at *
 refine di ?_ (by simp only [bD,oG];omega)
 refine Ax hg ?_
 refine qC 1000000 0 i 0 (mP x.ak ((k + m)) (by omega) (by omega) (tw.1)) ?_
 refine Ax hg ?_
 refine And.intro rfl ?_
 refine di ?_ (by simp only [bD,oG];omega)
 refine cJ ?_
 refine qC 1000000 0 i 1 (uT x.Out ((k + m) + bF x.ak) (by omega) (by omega) (tw.2.1)) ?_
 refine cJ ?_
 refine And.intro rfl ?_
 refine di ?_ (by simp only [bD,oG];omega)
 refine cJ ?_
 refine qC 1000000 0 i 2 (uU x.bI ((k + m) + bF x.ak + bX x.Out) (by omega) (by omega) (tw.2.2.1)) ?_
 refine cJ ?_
 refine And.intro rfl ?_
 refine di ?_ (by simp only [bD,oG];omega)
 refine cJ ?_
 refine qC 1000000 0 i 3 (BY x.aa ((k + m) + bF x.ak + bX x.Out + dU x.bI) (by omega) (by omega) (tw.2.2.2.1)) ?_
 refine cJ ?_
 refine And.intro rfl ?_
 refine di ?_ (by simp only [bD,oG];omega)
 refine cJ ?_
 refine qC 1000000 0 i 4 (q8 x.cm ((k + m) + bF x.ak + bX x.Out + dU x.bI + eI x.aa) (by omega) (by omega) (tw.2.2.2.2.1)) ?_
 refine cJ ?_
 refine And.intro rfl ?_
 refine di ?_ (by simp only [bD,oG];omega)
 refine cJ ?_
 refine cg ?_
 refine di ?_ (by simp only [bD,oG];omega)
 refine cJ ?_
 refine cg ?_
 refine di ?_ (by simp only [bD,oG];omega)
 refine cJ ?_
 refine qC 1000000 0 i 7 (C9 x.Tables ((k + m) + bF x.ak + bX x.Out + dU x.bI + eI x.aa + eg x.cm + 1 + 1) (by omega) (by omega) (tw.2.2.2.2.2)) ?_
 refine cJ ?_
 refine And.intro rfl ?_
 refine di ?_ (by simp only [bD,oG];omega)
 refine cJ ?_
 refine cg ?_
 refine cg ?_
 refine bq _ _ _ ?_
 refine ur [] (i + 1) (by omega) (by repeat' first|exact rfl|constructor|(refine dL ?_;first|exact congrArg (fun z:Int=>(I z:TS)) (by rw [hcs];omega)|(simp only [cS];rw [← hs])))
 refine bq _ _ _ ?_
 have hn:i=xs.length:=(by simp [cT (mb k xs)] at hb;omega)
 subst hn
 rw [mw (mb k xs) (gL _),iV]
 exact ⟨rfl,rfl⟩
theorem tE (xs:List bP) (k:Int) (h1:0 ≤ k) (h2:k + cY xs ≤ 1000000000000000) (jS:c4 xs):eH Tryz.prog 138 (⟨false,[.sl 4 (xs.map aC)]⟩) [.one (.c (.ref ⟨1000000,[],0⟩)),I k] (zx [.sl 4 ((jg k xs).map aC)] (I (k + cY xs))):=by
 refine eH.w 41 Tryz.func138 fun w g0 _=> ?_
 refine fw [] [] [] (fun (i:Nat)=>[.set 0 (.one (.c (.ref ⟨1000000,[],0⟩))), .set 1 (I (k + aA eJ (xs.take i))), .set 5 (I i)]) (fun (i:Nat)=>[(1000000,⟨false,[.own (.sl 4 ((jB (jg k xs) xs i).map aC))]⟩)]) (fun (i:Nat)=>i ≤ xs.length) (fun (i:Nat)=>xs.length - i) (0) (by simp) ?_
 refine ⟨(uu (by repeat' first|exact rfl|constructor|(refine dL ?_;simp [aA,j9]))),fun i hyp N1 bq=> ?_⟩
 have hyp:i ≤ xs.length:=hyp
 refine len ?_
 refine dV (fun hb=> ?_) (fun hb=> ?_)
 have hi:i < xs.length:=by simpa [cT (jM k xs)] using hb
 have hlen:xs.length ≤ 2097152:=eP (show xs.length ≤ 1048576 from jS) (by decide)
 obtain ⟨x,hx⟩:=dO (xs:=xs) (k:=i) hi
 have hcs:=cC (c:=eJ) hx
 have s4:=c5 oD xs (i + 1)
 have hc0:=bN oD (xs.take i)
 have hcd:aA eJ xs=cY xs:=rfl
 have hg:((jB (jg k xs) xs i).map aC)[i]? = some (aC x):=by simp [ec,mr (jM k xs),hx]
 have hs:((jB (jg k xs) xs i).map aC).set i (aC (nu (k + aA eJ (xs.take i)) x))=((jB (jg k xs) xs (i + 1)).map aC):=by rw [← mu (jM k xs) (cU nu eJ k hx),bL]
 have oG:((jB (jg k xs) xs i).map aC).length=xs.length:=by simp [cT (jM k xs)]
 generalize ((jB (jg k xs) xs i).map aC)=L at *
 simp only [aC,tW,nu,eJ] at hg hs hcs
 generalize IZ:aA eJ (xs.take i)=m at *
 refine di ?_ (by simp only [bD,oG];omega)
 refine Ax hg ?_
 refine cg ?_
 refine di ?_ (by simp only [bD,oG];omega)
 refine cJ ?_
 refine cg ?_
 refine di ?_ (by simp only [bD,oG];omega)
 refine cJ ?_
 refine cg ?_
 refine di ?_ (by simp only [bD,oG];omega)
 refine cJ ?_
 refine cg ?_
 refine cg ?_
 refine bq _ _ _ ?_
 refine ur [] (i + 1) (by omega) (by repeat' first|exact rfl|constructor|(refine dL ?_;first|exact congrArg (fun z:Int=>(I z:TS)) (by rw [hcs];omega)|(simp only [cS];rw [← hs])))
 refine bq _ _ _ ?_
 have hn:i=xs.length:=(by simp [cT (jM k xs)] at hb;omega)
 subst hn
 rw [mw (jM k xs) (gL _),iV]
 exact ⟨rfl,rfl⟩
theorem EB (x:ap) (k:Int) (h1:0 ≤ k) (h2:k + nv x ≤ 1000000000000000) (jS:aj x):eH Tryz.prog 50 (⟨false,[.sl 1 (x.au.map aP), .sl 9 (x.ai.map bA), .sl 4 (x.Buffer.map aC), .sl 4 (x.aD.map aC)]⟩) [.one (.agg [.ref ⟨1000000,[],0⟩, .ref ⟨1000000,[],1⟩, .ref ⟨1000000,[],2⟩, .ref ⟨1000000,[],3⟩]),I k] (zx [.sl 1 ((lK (k) x.au).map aP), .sl 9 ((pE (k + bX x.au) x.ai).map bA), .sl 4 ((jg (k + bX x.au + gv x.ai) x.Buffer).map aC), .sl 4 ((jg (k + bX x.au + gv x.ai + cY x.Buffer) x.aD).map aC)] (I (k + bX x.au + gv x.ai + cY x.Buffer + cY x.aD))):=by
 refine eH.w 22 Tryz.func50 fun w g0 _=> ?_
 have S5:=l9 x.au
 have Uo:=vK x.ai
 have Yv:=jL x.Buffer
 have hq3:=jL x.aD
 simp only [nv] at h2
 refine zN [(1000000,0)] (uT x.au (k) (by omega) (by omega) (jS.1)) ?_
 refine zN [(1000000,1)] (EA x.ai (k + bX x.au) (by omega) (by omega) (jS.2.1)) ?_
 refine zN [(1000000,2)] (tE x.Buffer (k + bX x.au + gv x.ai) (by omega) (by omega) (jS.2.2.1)) ?_
 refine zN [(1000000,3)] (tE x.aD (k + bX x.au + gv x.ai + cY x.Buffer) (by omega) (by omega) (jS.2.2.2)) ?_
 exact ⟨rfl,rfl⟩
theorem C_ (xs:List jE) (k:Int) (h1:0 ≤ k) (h2:k + nw xs ≤ 1000000000000000) (jS:yS xs):eH Tryz.prog 60 (⟨false,[.sl 2 (xs.map gU)]⟩) [.one (.c (.ref ⟨1000000,[],0⟩)),I k] (zx [.sl 2 ((oE k xs).map gU)] (I (k + nw xs))):=by
 refine eH.w 29 Tryz.func60 fun w g0 _=> ?_
 refine fw [] [] [] (fun (i:Nat)=>[.set 0 (.one (.c (.ref ⟨1000000,[],0⟩))), .set 1 (I (k + aA fM (xs.take i))), .set 5 (I i)]) (fun (i:Nat)=>[(1000000,⟨false,[.own (.sl 2 ((jB (oE k xs) xs i).map gU))]⟩)]) (fun (i:Nat)=>i ≤ xs.length) (fun (i:Nat)=>xs.length - i) (0) (by simp) ?_
 refine ⟨(uu (by repeat' first|exact rfl|constructor|(refine dL ?_;simp [aA,j9]))),fun i hyp N1 bq=> ?_⟩
 have hyp:i ≤ xs.length:=hyp
 refine len ?_
 refine dV (fun hb=> ?_) (fun hb=> ?_)
 have hi:i < xs.length:=by simpa [cT (kE k xs)] using hb
 have hlen:xs.length ≤ 2097152:=eP (show xs.length ≤ 1048576 from jS) (by decide)
 obtain ⟨x,hx⟩:=dO (xs:=xs) (k:=i) hi
 have hcs:=cC (c:=fM) hx
 have s4:=c5 qP xs (i + 1)
 have hc0:=bN qP (xs.take i)
 have hcd:aA fM xs=nw xs:=rfl
 have hg:((jB (oE k xs) xs i).map gU)[i]? = some (gU x):=by simp [ec,mr (kE k xs),hx]
 have hs:((jB (oE k xs) xs i).map gU).set i (gU (tC (k + aA fM (xs.take i)) x))=((jB (oE k xs) xs (i + 1)).map gU):=by rw [← mu (kE k xs) (cU tC fM k hx),bL]
 have oG:((jB (oE k xs) xs i).map gU).length=xs.length:=by simp [cT (kE k xs)]
 generalize ((jB (oE k xs) xs i).map gU)=L at *
 simp only [gU,GF,tC,fM] at hg hs hcs
 generalize IZ:aA fM (xs.take i)=m at *
 refine nz ?_
 refine di ?_ (by simp only [bD,oG];omega)
 refine Ax hg ?_
 refine cg ?_
 refine di ?_ (by simp only [bD,oG];omega)
 refine cJ ?_
 refine cg ?_
 refine cg ?_
 refine bq _ _ _ ?_
 refine ur [] (i + 1) (by omega) (by repeat' first|exact rfl|constructor|(refine dL ?_;first|exact congrArg (fun z:Int=>(I z:TS)) (by rw [hcs];omega)|(simp only [cS];rw [← hs])))
 refine bq _ _ _ ?_
 have hn:i=xs.length:=(by simp [cT (kE k xs)] at hb;omega)
 subst hn
 rw [mw (kE k xs) (gL _),iV]
 exact ⟨rfl,rfl⟩
theorem EC (xs:List dF) (k:Int) (h1:0 ≤ k) (h2:k + yZ xs ≤ 1000000000000000) (jS:ja xs):eH Tryz.prog 51 (⟨false,[.sl 6 (xs.map gO)]⟩) [.one (.c (.ref ⟨1000000,[],0⟩)),I k] (zx [.sl 6 ((x_ k xs).map gO)] (I (k + yZ xs))):=by
 refine eH.w 55 Tryz.func51 fun w g0 _=> ?_
 refine fw [] [] [] (fun (i:Nat)=>[.set 0 (.one (.c (.ref ⟨1000000,[],0⟩))), .set 1 (I (k + aA mN (xs.take i))), .set 5 (I i)]) (fun (i:Nat)=>[(1000000,⟨false,[.own (.sl 6 ((jB (x_ k xs) xs i).map gO))]⟩)]) (fun (i:Nat)=>i ≤ xs.length) (fun (i:Nat)=>xs.length - i) (0) (by simp) ?_
 refine ⟨(uu (by repeat' first|exact rfl|constructor|(refine dL ?_;simp [aA,j9]))),fun i hyp N1 bq=> ?_⟩
 have hyp:i ≤ xs.length:=hyp
 refine len ?_
 refine dV (fun hb=> ?_) (fun hb=> ?_)
 have hi:i < xs.length:=by simpa [cT (pF k xs)] using hb
 have hlen:xs.length ≤ 2097152:=eP (show xs.length ≤ 1048576 from jS) (by decide)
 obtain ⟨x,hx⟩:=dO (xs:=xs) (k:=i) hi
 have hcs:=cC (c:=mN) hx
 have s4:=c5 AV xs (i + 1)
 have hc0:=bN AV (xs.take i)
 have hcd:aA mN xs=yZ xs:=rfl
 have hg:((jB (x_ k xs) xs i).map gO)[i]? = some (gO x):=by simp [ec,mr (pF k xs),hx]
 have hs:((jB (x_ k xs) xs i).map gO).set i (gO (Ms (k + aA mN (xs.take i)) x))=((jB (x_ k xs) xs (i + 1)).map gO):=by rw [← mu (pF k xs) (cU Ms mN k hx),bL]
 have oG:((jB (x_ k xs) xs i).map gO).length=xs.length:=by simp [cT (pF k xs)]
 generalize ((jB (x_ k xs) xs i).map gO)=L at *
 simp only [gO,CY,Ms,mN] at hg hs hcs
 generalize IZ:aA mN (xs.take i)=m at *
 refine di ?_ (by simp only [bD,oG];omega)
 refine Ax hg ?_
 refine cg ?_
 refine di ?_ (by simp only [bD,oG];omega)
 refine cJ ?_
 refine cg ?_
 refine di ?_ (by simp only [bD,oG];omega)
 refine cJ ?_
 refine cg ?_
 refine di ?_ (by simp only [bD,oG];omega)
 refine cJ ?_
 refine cg ?_
 refine di ?_ (by simp only [bD,oG];omega)
 refine cJ ?_
 refine cg ?_
 refine di ?_ (by simp only [bD,oG];omega)
 refine cJ ?_
 refine cg ?_
 refine cg ?_
 refine bq _ _ _ ?_
 refine ur [] (i + 1) (by omega) (by repeat' first|exact rfl|constructor|(refine dL ?_;first|exact congrArg (fun z:Int=>(I z:TS)) (by rw [hcs];omega)|(simp only [cS];rw [← hs])))
 refine bq _ _ _ ?_
 have hn:i=xs.length:=(by simp [cT (pF k xs)] at hb;omega)
 subst hn
 rw [mw (pF k xs) (gL _),iV]
 exact ⟨rfl,rfl⟩
theorem Da (xs:List (List bZ)) (k:Int) (h1:0 ≤ k) (h2:k + jN xs ≤ 1000000000000000) (jS:kK xs):eH Tryz.prog 147 (⟨false,[.sl 1 (xs.map h_)]⟩) [.one (.c (.ref ⟨1000000,[],0⟩)),I k] (zx [.sl 1 ((oF k xs).map h_)] (I (k + jN xs))):=by
 refine eH.w 19 Tryz.func147 fun w g0 _=> ?_
 refine fw [] [] [] (fun (i:Nat)=>[.set 0 (.one (.c (.ref ⟨1000000,[],0⟩))), .set 1 (I (k + aA cQ (xs.take i))), .set 5 (I i)]) (fun (i:Nat)=>[(1000000,⟨false,[.own (.sl 1 ((jB (oF k xs) xs i).map h_))]⟩)]) (fun (i:Nat)=>i ≤ xs.length) (fun (i:Nat)=>xs.length - i) (0) (by simp) ?_
 refine ⟨(uu (by repeat' first|exact rfl|constructor|(refine dL ?_;simp [aA,j9]))),fun i hyp N1 bq=> ?_⟩
 have hyp:i ≤ xs.length:=hyp
 refine len ?_
 refine dV (fun hb=> ?_) (fun hb=> ?_)
 have hi:i < xs.length:=by simpa [cT (n9 k xs)] using hb
 have hlen:xs.length ≤ 2097152:=eP (show xs.length ≤ 1048576 from jS.1) (by decide)
 obtain ⟨x,hx⟩:=dO (xs:=xs) (k:=i) hi
 have hcs:=cC (c:=cQ) hx
 have s4:=c5 nY xs (i + 1)
 have hc0:=bN nY (xs.take i)
 have hcd:aA cQ xs=jN xs:=rfl
 have tw:ju x:=jS.2 x (aH hx)
 have hn0:=nY x
 have hg:((jB (oF k xs) xs i).map h_)[i]? = some (h_ x):=by simp [ec,mr (n9 k xs),hx]
 have hs:((jB (oF k xs) xs i).map h_).set i (h_ (nX (k + aA cQ (xs.take i)) x))=((jB (oF k xs) xs (i + 1)).map h_):=by rw [← mu (n9 k xs) (cU nX cQ k hx),bL]
 have oG:((jB (oF k xs) xs i).map h_).length=xs.length:=by simp [cT (n9 k xs)]
 generalize ((jB (oF k xs) xs i).map h_)=L at *
 simp only [h_] at hg hs
 generalize IZ:aA cQ (xs.take i)=m at *
 refine di ?_ (by simp only [bD,oG];omega)
 refine Ax hg ?_
 refine qC 1000000 0 i 0 (wE x ((k + m)) (by omega) (by omega) tw) ?_
 refine Ax hg ?_
 refine And.intro rfl ?_
 refine cg ?_
 refine bq _ _ _ ?_
 refine ur [] (i + 1) (by omega) (by repeat' first|exact rfl|constructor|(refine dL ?_;first|exact congrArg (fun z:Int=>(I z:TS)) (by rw [hcs];omega)|(simp only [cS, ← hs])))
 refine bq _ _ _ ?_
 have hn:i=xs.length:=(by simp [cT (n9 k xs)] at hb;omega)
 subst hn
 rw [mw (n9 k xs) (gL _),iV]
 exact ⟨rfl,rfl⟩
theorem BZ (xs:List (List (List bZ))) (k:Int) (h1:0 ≤ k) (h2:k + pG xs ≤ 1000000000000000) (jS:dY xs):eH Tryz.prog 59 (⟨false,[.sl 1 (xs.map de)]⟩) [.one (.c (.ref ⟨1000000,[],0⟩)),I k] (zx [.sl 1 ((qQ k xs).map de)] (I (k + pG xs))):=by
 refine eH.w 19 Tryz.func59 fun w g0 _=> ?_
 refine fw [] [] [] (fun (i:Nat)=>[.set 0 (.one (.c (.ref ⟨1000000,[],0⟩))), .set 1 (I (k + aA jN (xs.take i))), .set 5 (I i)]) (fun (i:Nat)=>[(1000000,⟨false,[.own (.sl 1 ((jB (qQ k xs) xs i).map de))]⟩)]) (fun (i:Nat)=>i ≤ xs.length) (fun (i:Nat)=>xs.length - i) (0) (by simp) ?_
 refine ⟨(uu (by repeat' first|exact rfl|constructor|(refine dL ?_;simp [aA,j9]))),fun i hyp N1 bq=> ?_⟩
 have hyp:i ≤ xs.length:=hyp
 refine len ?_
 refine dV (fun hb=> ?_) (fun hb=> ?_)
 have hi:i < xs.length:=by simpa [cT (mO k xs)] using hb
 have hlen:xs.length ≤ 2097152:=eP (show xs.length ≤ 1048576 from jS.1) (by decide)
 obtain ⟨x,hx⟩:=dO (xs:=xs) (k:=i) hi
 have hcs:=cC (c:=jN) hx
 have s4:=c5 tD xs (i + 1)
 have hc0:=bN tD (xs.take i)
 have hcd:aA jN xs=pG xs:=rfl
 have tw:kK x:=jS.2 x (aH hx)
 have hn0:=tD x
 have hg:((jB (qQ k xs) xs i).map de)[i]? = some (de x):=by simp [ec,mr (mO k xs),hx]
 have hs:((jB (qQ k xs) xs i).map de).set i (de (oF (k + aA jN (xs.take i)) x))=((jB (qQ k xs) xs (i + 1)).map de):=by rw [← mu (mO k xs) (cU oF jN k hx),bL]
 have oG:((jB (qQ k xs) xs i).map de).length=xs.length:=by simp [cT (mO k xs)]
 generalize ((jB (qQ k xs) xs i).map de)=L at *
 simp only [de] at hg hs
 generalize IZ:aA jN (xs.take i)=m at *
 refine di ?_ (by simp only [bD,oG];omega)
 refine Ax hg ?_
 refine qC 1000000 0 i 0 (Da x ((k + m)) (by omega) (by omega) tw) ?_
 refine Ax hg ?_
 refine And.intro rfl ?_
 refine cg ?_
 refine bq _ _ _ ?_
 refine ur [] (i + 1) (by omega) (by repeat' first|exact rfl|constructor|(refine dL ?_;first|exact congrArg (fun z:Int=>(I z:TS)) (by rw [hcs];omega)|(simp only [cS, ← hs])))
 refine bq _ _ _ ?_
 have hn:i=xs.length:=(by simp [cT (mO k xs)] at hb;omega)
 subst hn
 rw [mw (mO k xs) (gL _),iV]
 exact ⟨rfl,rfl⟩
end Go.Proofs.YtdliggkohdnipaaGreat.T
