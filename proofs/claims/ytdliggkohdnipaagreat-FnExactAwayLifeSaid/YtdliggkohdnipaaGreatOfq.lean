import Derived.Test.YtdliggkohdnipaaGreatHdq
import Derived.Test.YtdliggkohdnipaaGreatOcq
import Derived.Test.YtdliggkohdnipaaGreatHbq
import Derived.Test.YtdliggkohdnipaaGreatHeq
import Derived.Test.YtdliggkohdnipaaGreatOeq
set_option linter.unusedVariables false
set_option linter.unusedSimpArgs false
namespace Go.Proofs.YtdliggkohdnipaaGreat.T
open Go
set_option maxRecDepth 100000
set_option maxHeartbeats 1000000
theorem q9 (xs:List Int) (k:Int) (h1:0 ≤ k) (h2:k + eg xs ≤ 1000000000000000) (jS:dP xs):aF Tryz.prog 53 [L 1 ((kS k xs).map bS),I k] (RV (.int .i64 (k + eg xs))):=by
 refine aF.w 21 Tryz.func53 fun w g0 _=> ?_
 refine fw [] [] [] (fun (i:Nat)=>[.set 0 (L 1 ((kS k xs).map bS)), .set 1 (I (k + aA iw (xs.take i))), .set 5 (I i)]) (fun (i:Nat)=>[]) (fun (i:Nat)=>i ≤ xs.length) (fun (i:Nat)=>xs.length - i) (0) (by simp) ?_
 refine ⟨(uu (by repeat' first|exact rfl|constructor|(refine dL ?_;simp [aA]))),fun i hyp N1 bq=> ?_⟩
 have hyp:i ≤ xs.length:=hyp
 refine len ?_
 refine dV (fun hb=> ?_) (fun hb=> ?_)
 ·have hi:i < xs.length:=by simpa [l8] using hb
  have hlen:xs.length ≤ 2097152:=eP (show xs.length ≤ 1048576 from jS) (by decide)
  obtain ⟨x,hx⟩:=dO (xs:=xs) (k:=i) hi
  have hcs:=cC (c:=iw) hx
  have s4:=c5 sO xs (i + 1)
  have hc0:=bN sO (xs.take i)
  have hcd:aA iw xs=eg xs:=rfl
  have hg:(kS k xs)[i]? = some (AU (k + aA iw (xs.take i)) x):=cU AU iw k hx
  generalize IZ:aA iw (xs.take i)=m at *
  simp only [iw] at hcs
  refine dM hg ?_
  refine dV (fun hb=> ?_) (fun hb=> ?_)
  ·(exfalso;(simp [AU] at hb;done))
  ·refine cg ?_
   refine cg ?_
   refine bq _ _ _ ?_
   refine ur [] (i + 1) (by omega) (by repeat' first|exact rfl|constructor|(refine dL ?_;(exact congrArg (fun z:Int=>(I z:TS)) (by rw [hcs];omega))))
 ·refine bq _ _ _ ?_
  exact ay (by have hn:i=xs.length:=(by simp [l8] at hb;omega);subst hn;rw [iV];rfl)
theorem uV (xs:List (List Int)) (k:Int) (h1:0 ≤ k) (h2:k + bX xs ≤ 1000000000000000) (jS:eD xs):aF Tryz.prog 148 [L 1 ((lK k xs).map aP),I k] (RV (.int .i64 (k + bX xs))):=by
 refine aF.w 21 Tryz.func148 fun w g0 _=> ?_
 refine fw [] [] [] (fun (i:Nat)=>[.set 0 (L 1 ((lK k xs).map aP)), .set 1 (I (k + aA eg (xs.take i))), .set 5 (I i)]) (fun (i:Nat)=>[]) (fun (i:Nat)=>i ≤ xs.length) (fun (i:Nat)=>xs.length - i) (0) (by simp) ?_
 refine ⟨(uu (by repeat' first|exact rfl|constructor|(refine dL ?_;simp [aA]))),fun i hyp N1 bq=> ?_⟩
 have hyp:i ≤ xs.length:=hyp
 refine len ?_
 refine dV (fun hb=> ?_) (fun hb=> ?_)
 ·have hi:i < xs.length:=by simpa [kA] using hb
  have hlen:xs.length ≤ 2097152:=eP (show xs.length ≤ 1048576 from jS.1) (by decide)
  obtain ⟨x,hx⟩:=dO (xs:=xs) (k:=i) hi
  have hcs:=cC (c:=eg) hx
  have s4:=c5 gR xs (i + 1)
  have hc0:=bN gR (xs.take i)
  have hcd:aA eg xs=bX xs:=rfl
  have hg:(lK k xs)[i]? = some (kS (k + aA eg (xs.take i)) x):=cU kS eg k hx
  have tw:dP x:=jS.2 x (aH hx)
  have hn0:=gR x
  generalize IZ:aA eg (xs.take i)=m at *
  skip
  refine dM hg ?_
  refine ah (q9 x ((k + m)) (by omega) (by omega) tw).k ?_
  refine dV (fun hb=> ?_) (fun hb=> ?_)
  ·(exfalso;(simp [kS] at hb;omega))
  ·refine cg ?_
   refine bq _ _ _ ?_
   refine ur [] (i + 1) (by omega) (by repeat' first|exact rfl|constructor|(refine dL ?_;(exact congrArg (fun z:Int=>(I z:TS)) (by rw [hcs];omega))))
 ·refine bq _ _ _ ?_
  exact ay (by have hn:i=xs.length:=(by simp [kA] at hb;omega);subst hn;rw [iV];rfl)
theorem mQ (xs:List aQ) (k:Int) (h1:0 ≤ k) (h2:k + bF xs ≤ 1000000000000000) (jS:eM xs):aF Tryz.prog 246 [L 2 ((kT k xs).map aT),I k] (RV (.int .i64 (k + bF xs))):=by
 refine aF.w 31 Tryz.func246 fun w g0 _=> ?_
 refine fw [] [] [] (fun (i:Nat)=>[.set 0 (L 2 ((kT k xs).map aT)), .set 1 (I (k + aA fJ (xs.take i))), .set 5 (I i)]) (fun (i:Nat)=>[]) (fun (i:Nat)=>i ≤ xs.length) (fun (i:Nat)=>xs.length - i) (0) (by simp) ?_
 refine ⟨(uu (by repeat' first|exact rfl|constructor|(refine dL ?_;simp [aA]))),fun i hyp N1 bq=> ?_⟩
 have hyp:i ≤ xs.length:=hyp
 refine len ?_
 refine dV (fun hb=> ?_) (fun hb=> ?_)
 ·have hi:i < xs.length:=by simpa [kB] using hb
  have hlen:xs.length ≤ 2097152:=eP (show xs.length ≤ 1048576 from jS) (by decide)
  obtain ⟨x,hx⟩:=dO (xs:=xs) (k:=i) hi
  have hcs:=cC (c:=fJ) hx
  have s4:=c5 qM xs (i + 1)
  have hc0:=bN qM (xs.take i)
  have hcd:aA fJ xs=bF xs:=rfl
  have hg:(kT k xs)[i]? = some (tA (k + aA fJ (xs.take i)) x):=cU tA fJ k hx
  generalize IZ:aA fJ (xs.take i)=m at *
  simp only [fJ] at hcs
  refine dM hg ?_
  refine dV (fun hb=> ?_) (fun hb=> ?_)
  ·(exfalso;(simp [tA] at hb;done))
  ·refine cg ?_
   refine dM hg ?_
   refine dV (fun hb=> ?_) (fun hb=> ?_)
   ·(exfalso;(simp [tA] at hb;done))
   ·refine cg ?_
    refine cg ?_
    refine bq _ _ _ ?_
    refine ur [] (i + 1) (by omega) (by repeat' first|exact rfl|constructor|(refine dL ?_;(exact congrArg (fun z:Int=>(I z:TS)) (by rw [hcs];omega))))
 ·refine bq _ _ _ ?_
  exact ay (by have hn:i=xs.length:=(by simp [kB] at hb;omega);subst hn;rw [iV];rfl)
theorem uW (xs:List Bool) (k:Int) (h1:0 ≤ k) (h2:k + dU xs ≤ 1000000000000000) (jS:ou xs):aF Tryz.prog 247 [L 1 ((mM k xs).map bO),I k] (RV (.int .i64 (k + dU xs))):=by
 refine aF.w 23 Tryz.func247 fun w g0 _=> ?_
 refine fw [] [] [] (fun (i:Nat)=>[.set 0 (L 1 ((mM k xs).map bO)), .set 1 (I (k + aA fK (xs.take i))), .set 5 (I i)]) (fun (i:Nat)=>[]) (fun (i:Nat)=>i ≤ xs.length) (fun (i:Nat)=>xs.length - i) (0) (by simp) ?_
 refine ⟨(uu (by repeat' first|exact rfl|constructor|(refine dL ?_;simp [aA]))),fun i hyp N1 bq=> ?_⟩
 have hyp:i ≤ xs.length:=hyp
 refine len ?_
 refine dV (fun hb=> ?_) (fun hb=> ?_)
 ·have hi:i < xs.length:=by simpa [kC] using hb
  have hlen:xs.length ≤ 2097152:=eP (show xs.length ≤ 1048576 from jS) (by decide)
  obtain ⟨x,hx⟩:=dO (xs:=xs) (k:=i) hi
  have hcs:=cC (c:=fK) hx
  have s4:=c5 qN xs (i + 1)
  have hc0:=bN qN (xs.take i)
  have hcd:aA fK xs=dU xs:=rfl
  have hg:(mM k xs)[i]? = some (vI (k + aA fK (xs.take i)) x):=cU vI fK k hx
  generalize IZ:aA fK (xs.take i)=m at *
  simp only [fK] at hcs
  refine dM hg ?_
  refine nz ?_
  refine dV (fun hb=> ?_) (fun hb=> ?_)
  ·(exfalso;(simp [vI] at hb;done))
  ·refine cg ?_
   refine cg ?_
   refine bq _ _ _ ?_
   refine ur [] (i + 1) (by omega) (by repeat' first|exact rfl|constructor|(refine dL ?_;(exact congrArg (fun z:Int=>(I z:TS)) (by rw [hcs];omega))))
 ·refine bq _ _ _ ?_
  exact ay (by have hn:i=xs.length:=(by simp [kC] at hb;omega);subst hn;rw [iV];rfl)
theorem ED (xs:List bZ) (k:Int) (h1:0 ≤ k) (h2:k + cQ xs ≤ 1000000000000000) (jS:ju xs):aF Tryz.prog 372 [L 2 ((nX k xs).map i_),I k] (RV (.int .i64 (k + cQ xs))):=by
 refine aF.w 31 Tryz.func372 fun w g0 _=> ?_
 refine fw [] [] [] (fun (i:Nat)=>[.set 0 (L 2 ((nX k xs).map i_)), .set 1 (I (k + aA gG (xs.take i))), .set 5 (I i)]) (fun (i:Nat)=>[]) (fun (i:Nat)=>i ≤ xs.length) (fun (i:Nat)=>xs.length - i) (0) (by simp) ?_
 refine ⟨(uu (by repeat' first|exact rfl|constructor|(refine dL ?_;simp [aA]))),fun i hyp N1 bq=> ?_⟩
 have hyp:i ≤ xs.length:=hyp
 refine len ?_
 refine dV (fun hb=> ?_) (fun hb=> ?_)
 ·have hi:i < xs.length:=by simpa [l_] using hb
  have hlen:xs.length ≤ 2097152:=eP (show xs.length ≤ 1048576 from jS) (by decide)
  obtain ⟨x,hx⟩:=dO (xs:=xs) (k:=i) hi
  have hcs:=cC (c:=gG) hx
  have s4:=c5 sP xs (i + 1)
  have hc0:=bN sP (xs.take i)
  have hcd:aA gG xs=cQ xs:=rfl
  have hg:(nX k xs)[i]? = some (x7 (k + aA gG (xs.take i)) x):=cU x7 gG k hx
  generalize IZ:aA gG (xs.take i)=m at *
  simp only [gG] at hcs
  refine dM hg ?_
  refine dV (fun hb=> ?_) (fun hb=> ?_)
  ·(exfalso;(simp [x7] at hb;done))
  ·refine cg ?_
   refine dM hg ?_
   refine dV (fun hb=> ?_) (fun hb=> ?_)
   ·(exfalso;(simp [x7] at hb;done))
   ·refine cg ?_
    refine cg ?_
    refine bq _ _ _ ?_
    refine ur [] (i + 1) (by omega) (by repeat' first|exact rfl|constructor|(refine dL ?_;(exact congrArg (fun z:Int=>(I z:TS)) (by rw [hcs];omega))))
 ·refine bq _ _ _ ?_
  exact ay (by have hn:i=xs.length:=(by simp [l_] at hb;omega);subst hn;rw [iV];rfl)
theorem B0 (xs:List ax) (k:Int) (h1:0 ≤ k) (h2:k + eI xs ≤ 1000000000000000) (jS:ki xs):aF Tryz.prog 248 [L 15 ((ld k xs).map bp),I k] (RV (.int .i64 (k + eI xs))):=by
 refine aF.w 161 Tryz.func248 fun w g0 _=> ?_
 refine fw [] [] [] (fun (i:Nat)=>[.set 0 (L 15 ((ld k xs).map bp)), .set 1 (I (k + aA ey (xs.take i))), .set 5 (I i)]) (fun (i:Nat)=>[]) (fun (i:Nat)=>i ≤ xs.length) (fun (i:Nat)=>xs.length - i) (0) (by simp) ?_
 refine ⟨(uu (by repeat' first|exact rfl|constructor|(refine dL ?_;simp [aA]))),fun i hyp N1 bq=> ?_⟩
 have hyp:i ≤ xs.length:=hyp
 refine len ?_
 refine dV (fun hb=> ?_) (fun hb=> ?_)
 ·have hi:i < xs.length:=by simpa [jK] using hb
  have hlen:xs.length ≤ 2097152:=eP (show xs.length ≤ 1048576 from jS.1) (by decide)
  obtain ⟨x,hx⟩:=dO (xs:=xs) (k:=i) hi
  have hcs:=cC (c:=ey) hx
  have s4:=c5 oC xs (i + 1)
  have hc0:=bN oC (xs.take i)
  have hcd:aA ey xs=eI xs:=rfl
  have hg:(ld k xs)[i]? = some (fo (k + aA ey (xs.take i)) x):=cU fo ey k hx
  have tw:aJ x:=jS.2 x (aH hx)
  have hn0:=nY x.Prog
  have hn1:=gB x.Written
  have hn2:=gB x.Live
  have hn3:=gR x.Seen
  generalize IZ:aA ey (xs.take i)=m at *
  simp only [ey] at hcs
  refine dM hg ?_
  refine ah (ED x.Prog ((k + m)) (by omega) (by omega) (tw.1)).k ?_
  refine dV (fun hb=> ?_) (fun hb=> ?_)
  ·(exfalso;(simp [fo] at hb;omega))
  ·refine dM hg ?_
   refine dV (fun hb=> ?_) (fun hb=> ?_)
   ·(exfalso;(simp [fo] at hb;done))
   ·refine cg ?_
    refine dM hg ?_
    refine dV (fun hb=> ?_) (fun hb=> ?_)
    ·(exfalso;(simp [fo] at hb;done))
    ·refine cg ?_
     refine dM hg ?_
     refine ah (mQ x.Written ((k + m) + cQ x.Prog + 1 + 1) (by omega) (by omega) (tw.2.1)).k ?_
     refine dV (fun hb=> ?_) (fun hb=> ?_)
     ·(exfalso;(simp [fo] at hb;omega))
     ·refine dM hg ?_
      refine ah (mQ x.Live ((k + m) + cQ x.Prog + 1 + 1 + bF x.Written) (by omega) (by omega) (tw.2.2.1)).k ?_
      refine dV (fun hb=> ?_) (fun hb=> ?_)
      ·(exfalso;(simp [fo] at hb;omega))
      ·refine dM hg ?_
       refine dV (fun hb=> ?_) (fun hb=> ?_)
       ·(exfalso;(simp [fo] at hb;done))
       ·refine cg ?_
        refine dM hg ?_
        refine dV (fun hb=> ?_) (fun hb=> ?_)
        ·(exfalso;(simp [fo] at hb;done))
        ·refine cg ?_
         refine dM hg ?_
         refine nz ?_
         refine dV (fun hb=> ?_) (fun hb=> ?_)
         ·(exfalso;(simp [fo] at hb;done))
         ·refine cg ?_
          refine dM hg ?_
          refine dV (fun hb=> ?_) (fun hb=> ?_)
          ·(exfalso;(simp [fo] at hb;done))
          ·refine cg ?_
           refine dM hg ?_
           refine dV (fun hb=> ?_) (fun hb=> ?_)
           ·(exfalso;(simp [fo] at hb;done))
           ·refine cg ?_
            refine dM hg ?_
            refine dV (fun hb=> ?_) (fun hb=> ?_)
            ·(exfalso;(simp [fo] at hb;done))
            ·refine cg ?_
             refine dM hg ?_
             refine nz ?_
             refine dV (fun hb=> ?_) (fun hb=> ?_)
             ·(exfalso;(simp [fo] at hb;done))
             ·refine cg ?_
              refine dM hg ?_
              refine dV (fun hb=> ?_) (fun hb=> ?_)
              ·(exfalso;(simp [fo] at hb;done))
              ·refine cg ?_
               refine dM hg ?_
               refine nz ?_
               refine dV (fun hb=> ?_) (fun hb=> ?_)
               ·(exfalso;(simp [fo] at hb;done))
               ·refine cg ?_
                refine dM hg ?_
                refine ah (q9 x.Seen ((k + m) + cQ x.Prog + 1 + 1 + bF x.Written + bF x.Live + 1 + 1 + 1 + 1 + 1 + 1 + 1 + 1 + 1) (by omega) (by omega) (tw.2.2.2)).k ?_
                refine dV (fun hb=> ?_) (fun hb=> ?_)
                ·(exfalso;(simp [fo] at hb;omega))
                ·refine cg ?_
                 refine bq _ _ _ ?_
                 refine ur [] (i + 1) (by omega) (by repeat' first|exact rfl|constructor|(refine dL ?_;(exact congrArg (fun z:Int=>(I z:TS)) (by rw [hcs];omega))))
 ·refine bq _ _ _ ?_
  exact ay (by have hn:i=xs.length:=(by simp [jK] at hb;omega);subst hn;rw [iV];rfl)
theorem Db (xs:List cE) (k:Int) (h1:0 ≤ k) (h2:k + lf xs ≤ 1000000000000000) (jS:tf xs):aF Tryz.prog 249 [L 2 ((nK k xs).map cz),I k] (RV (.int .i64 (k + lf xs))):=by
 refine aF.w 31 Tryz.func249 fun w g0 _=> ?_
 refine fw [] [] [] (fun (i:Nat)=>[.set 0 (L 2 ((nK k xs).map cz)), .set 1 (I (k + aA fL (xs.take i))), .set 5 (I i)]) (fun (i:Nat)=>[]) (fun (i:Nat)=>i ≤ xs.length) (fun (i:Nat)=>xs.length - i) (0) (by simp) ?_
 refine ⟨(uu (by repeat' first|exact rfl|constructor|(refine dL ?_;simp [aA]))),fun i hyp N1 bq=> ?_⟩
 have hyp:i ≤ xs.length:=hyp
 refine len ?_
 refine dV (fun hb=> ?_) (fun hb=> ?_)
 have hi:i < xs.length:=by simpa [kD] using hb
 have hlen:xs.length ≤ 2097152:=eP (show xs.length ≤ 1048576 from jS.1) (by decide)
 obtain ⟨x,hx⟩:=dO (xs:=xs) (k:=i) hi
 have hcs:=cC (c:=fL) hx
 have s4:=c5 qO xs (i + 1)
 have hc0:=bN qO (xs.take i)
 have hcd:aA fL xs=lf xs:=rfl
 have hg:(nK k xs)[i]? = some (tB (k + aA fL (xs.take i)) x):=cU tB fL k hx
 have tw:dR x:=jS.2 x (aH hx)
 have hn0:=n8 x.cG
 have hn1:=gB x.dQ
 generalize IZ:aA fL (xs.take i)=m at *
 simp only [fL] at hcs
 refine dM hg ?_
 refine ah (uW x.cG ((k + m)) (by omega) (by omega) (tw.1)).k ?_
 refine dV (fun hb=> ?_) (fun hb=> ?_)
 (exfalso;(simp [tB] at hb;omega))
 refine dM hg ?_
 refine ah (mQ x.dQ ((k + m) + dU x.cG) (by omega) (by omega) (tw.2)).k ?_
 refine dV (fun hb=> ?_) (fun hb=> ?_)
 (exfalso;(simp [tB] at hb;omega))
 refine cg ?_
 refine bq _ _ _ ?_
 refine ur [] (i + 1) (by omega) (by repeat' first|exact rfl|constructor|(refine dL ?_;(exact congrArg (fun z:Int=>(I z:TS)) (by rw [hcs];omega))))
 refine bq _ _ _ ?_
 exact ay (by have hn:i=xs.length:=(by simp [kD] at hb;omega);subst hn;rw [iV];rfl)
theorem EE (xs:List aV) (k:Int) (h1:0 ≤ k) (h2:k + gv xs ≤ 1000000000000000) (jS:xx xs):aF Tryz.prog 149 [L 9 ((pE k xs).map bA),I k] (RV (.int .i64 (k + gv xs))):=by
 refine aF.w 94 Tryz.func149 fun w g0 _=> ?_
 refine fw [] [] [] (fun (i:Nat)=>[.set 0 (L 9 ((pE k xs).map bA)), .set 1 (I (k + aA ix (xs.take i))), .set 5 (I i)]) (fun (i:Nat)=>[]) (fun (i:Nat)=>i ≤ xs.length) (fun (i:Nat)=>xs.length - i) (0) (by simp) ?_
 refine ⟨(uu (by repeat' first|exact rfl|constructor|(refine dL ?_;simp [aA]))),fun i hyp N1 bq=> ?_⟩
 have hyp:i ≤ xs.length:=hyp
 refine len ?_
 refine dV (fun hb=> ?_) (fun hb=> ?_)
 ·have hi:i < xs.length:=by simpa [mb] using hb
  have hlen:xs.length ≤ 2097152:=eP (show xs.length ≤ 1048576 from jS.1) (by decide)
  obtain ⟨x,hx⟩:=dO (xs:=xs) (k:=i) hi
  have hcs:=cC (c:=ix) hx
  have s4:=c5 sQ xs (i + 1)
  have hc0:=bN sQ (xs.take i)
  have hcd:aA ix xs=gv xs:=rfl
  have hg:(pE k xs)[i]? = some (nZ (k + aA ix (xs.take i)) x):=cU nZ ix k hx
  have tw:bt x:=jS.2 x (aH hx)
  have hn0:=gB x.ak
  have hn1:=l9 x.Out
  have hn2:=n8 x.bI
  have hn3:=vJ x.aa
  have hn4:=gR x.cm
  have hn5:=x9 x.Tables
  generalize IZ:aA ix (xs.take i)=m at *
  simp only [ix] at hcs
  refine dM hg ?_
  refine ah (mQ x.ak ((k + m)) (by omega) (by omega) (tw.1)).k ?_
  refine dV (fun hb=> ?_) (fun hb=> ?_)
  ·(exfalso;(simp [nZ] at hb;omega))
  ·refine dM hg ?_
   refine ah (uV x.Out ((k + m) + bF x.ak) (by omega) (by omega) (tw.2.1)).k ?_
   refine dV (fun hb=> ?_) (fun hb=> ?_)
   ·(exfalso;(simp [nZ] at hb;omega))
   ·refine dM hg ?_
    refine ah (uW x.bI ((k + m) + bF x.ak + bX x.Out) (by omega) (by omega) (tw.2.2.1)).k ?_
    refine dV (fun hb=> ?_) (fun hb=> ?_)
    ·(exfalso;(simp [nZ] at hb;omega))
    ·refine dM hg ?_
     refine ah (B0 x.aa ((k + m) + bF x.ak + bX x.Out + dU x.bI) (by omega) (by omega) (tw.2.2.2.1)).k ?_
     refine dV (fun hb=> ?_) (fun hb=> ?_)
     ·(exfalso;(simp [nZ] at hb;omega))
     ·refine dM hg ?_
      refine ah (q9 x.cm ((k + m) + bF x.ak + bX x.Out + dU x.bI + eI x.aa) (by omega) (by omega) (tw.2.2.2.2.1)).k ?_
      refine dV (fun hb=> ?_) (fun hb=> ?_)
      ·(exfalso;(simp [nZ] at hb;omega))
      ·refine dM hg ?_
       refine dV (fun hb=> ?_) (fun hb=> ?_)
       ·(exfalso;(simp [nZ] at hb;done))
       ·refine cg ?_
        refine dM hg ?_
        refine dV (fun hb=> ?_) (fun hb=> ?_)
        ·(exfalso;(simp [nZ] at hb;done))
        ·refine cg ?_
         refine dM hg ?_
         refine ah (Db x.Tables ((k + m) + bF x.ak + bX x.Out + dU x.bI + eI x.aa + eg x.cm + 1 + 1) (by omega) (by omega) (tw.2.2.2.2.2)).k ?_
         refine dV (fun hb=> ?_) (fun hb=> ?_)
         ·(exfalso;(simp [nZ] at hb;omega))
         ·refine dM hg ?_
          refine dV (fun hb=> ?_) (fun hb=> ?_)
          ·(exfalso;(simp [nZ] at hb;done))
          ·refine cg ?_
           refine cg ?_
           refine bq _ _ _ ?_
           refine ur [] (i + 1) (by omega) (by repeat' first|exact rfl|constructor|(refine dL ?_;(exact congrArg (fun z:Int=>(I z:TS)) (by rw [hcs];omega))))
 ·refine bq _ _ _ ?_
  exact ay (by have hn:i=xs.length:=(by simp [mb] at hb;omega);subst hn;rw [iV];rfl)
theorem tF (xs:List bP) (k:Int) (h1:0 ≤ k) (h2:k + cY xs ≤ 1000000000000000) (jS:c4 xs):aF Tryz.prog 150 [L 4 ((jg k xs).map aC),I k] (RV (.int .i64 (k + cY xs))):=by
 refine aF.w 49 Tryz.func150 fun w g0 _=> ?_
 refine fw [] [] [] (fun (i:Nat)=>[.set 0 (L 4 ((jg k xs).map aC)), .set 1 (I (k + aA eJ (xs.take i))), .set 5 (I i)]) (fun (i:Nat)=>[]) (fun (i:Nat)=>i ≤ xs.length) (fun (i:Nat)=>xs.length - i) (0) (by simp) ?_
 refine ⟨(uu (by repeat' first|exact rfl|constructor|(refine dL ?_;simp [aA]))),fun i hyp N1 bq=> ?_⟩
 have hyp:i ≤ xs.length:=hyp
 refine len ?_
 refine dV (fun hb=> ?_) (fun hb=> ?_)
 ·have hi:i < xs.length:=by simpa [jM] using hb
  have hlen:xs.length ≤ 2097152:=eP (show xs.length ≤ 1048576 from jS) (by decide)
  obtain ⟨x,hx⟩:=dO (xs:=xs) (k:=i) hi
  have hcs:=cC (c:=eJ) hx
  have s4:=c5 oD xs (i + 1)
  have hc0:=bN oD (xs.take i)
  have hcd:aA eJ xs=cY xs:=rfl
  have hg:(jg k xs)[i]? = some (nu (k + aA eJ (xs.take i)) x):=cU nu eJ k hx
  generalize IZ:aA eJ (xs.take i)=m at *
  simp only [eJ] at hcs
  refine dM hg ?_
  refine dV (fun hb=> ?_) (fun hb=> ?_)
  ·(exfalso;(simp [nu] at hb;done))
  ·refine cg ?_
   refine dM hg ?_
   refine dV (fun hb=> ?_) (fun hb=> ?_)
   ·(exfalso;(simp [nu] at hb;done))
   ·refine cg ?_
    refine dM hg ?_
    refine dV (fun hb=> ?_) (fun hb=> ?_)
    ·(exfalso;(simp [nu] at hb;done))
    ·refine cg ?_
     refine dM hg ?_
     refine dV (fun hb=> ?_) (fun hb=> ?_)
     ·(exfalso;(simp [nu] at hb;done))
     ·refine cg ?_
      refine cg ?_
      refine bq _ _ _ ?_
      refine ur [] (i + 1) (by omega) (by repeat' first|exact rfl|constructor|(refine dL ?_;(exact congrArg (fun z:Int=>(I z:TS)) (by rw [hcs];omega))))
 ·refine bq _ _ _ ?_
  exact ay (by have hn:i=xs.length:=(by simp [jM] at hb;omega);subst hn;rw [iV];rfl)
theorem wF (x:ap) (k:Int) (h1:0 ≤ k) (h2:k + nv x ≤ 1000000000000000) (jS:aj x):aF Tryz.prog 61 [A (aq (Y6 k x)),I k] (RV (.int .i64 (k + bX x.au + gv x.ai + cY x.Buffer + cY x.aD))):=by
 refine aF.w 30 Tryz.func61 fun w g0 _=> ?_
 have S5:=l9 x.au
 have Uo:=vK x.ai
 have Yv:=jL x.Buffer
 have hq3:=jL x.aD
 simp only [nv] at h2
 refine ah (uV x.au (k) (by omega) (by omega) (jS.1)).k ?_
 refine dV (fun hb=> ?_) (fun hb=> ?_)
 (exfalso;simp at hb;omega)
 refine ah (EE x.ai (k + bX x.au) (by omega) (by omega) (jS.2.1)).k ?_
 refine dV (fun hb=> ?_) (fun hb=> ?_)
 (exfalso;simp at hb;omega)
 refine ah (tF x.Buffer (k + bX x.au + gv x.ai) (by omega) (by omega) (jS.2.2.1)).k ?_
 refine dV (fun hb=> ?_) (fun hb=> ?_)
 (exfalso;simp at hb;omega)
 refine ah (tF x.aD (k + bX x.au + gv x.ai + cY x.Buffer) (by omega) (by omega) (jS.2.2.2)).k ?_
 refine dV (fun hb=> ?_) (fun hb=> ?_)
 (exfalso;simp at hb;omega)
 exact rfl
theorem uX (xs:List jE) (k:Int) (h1:0 ≤ k) (h2:k + nw xs ≤ 1000000000000000) (jS:yS xs):aF Tryz.prog 62 [L 2 ((oE k xs).map gU),I k] (RV (.int .i64 (k + nw xs))):=by
 refine aF.w 33 Tryz.func62 fun w g0 _=> ?_
 refine fw [] [] [] (fun (i:Nat)=>[.set 0 (L 2 ((oE k xs).map gU)), .set 1 (I (k + aA fM (xs.take i))), .set 5 (I i)]) (fun (i:Nat)=>[]) (fun (i:Nat)=>i ≤ xs.length) (fun (i:Nat)=>xs.length - i) (0) (by simp) ?_
 refine ⟨(uu (by repeat' first|exact rfl|constructor|(refine dL ?_;simp [aA]))),fun i hyp N1 bq=> ?_⟩
 have hyp:i ≤ xs.length:=hyp
 refine len ?_
 refine dV (fun hb=> ?_) (fun hb=> ?_)
 ·have hi:i < xs.length:=by simpa [kE] using hb
  have hlen:xs.length ≤ 2097152:=eP (show xs.length ≤ 1048576 from jS) (by decide)
  obtain ⟨x,hx⟩:=dO (xs:=xs) (k:=i) hi
  have hcs:=cC (c:=fM) hx
  have s4:=c5 qP xs (i + 1)
  have hc0:=bN qP (xs.take i)
  have hcd:aA fM xs=nw xs:=rfl
  have hg:(oE k xs)[i]? = some (tC (k + aA fM (xs.take i)) x):=cU tC fM k hx
  generalize IZ:aA fM (xs.take i)=m at *
  simp only [fM] at hcs
  refine dM hg ?_
  refine nz ?_
  refine dV (fun hb=> ?_) (fun hb=> ?_)
  ·(exfalso;(simp [tC] at hb;done))
  ·refine cg ?_
   refine dM hg ?_
   refine dV (fun hb=> ?_) (fun hb=> ?_)
   ·(exfalso;(simp [tC] at hb;done))
   ·refine cg ?_
    refine cg ?_
    refine bq _ _ _ ?_
    refine ur [] (i + 1) (by omega) (by repeat' first|exact rfl|constructor|(refine dL ?_;(exact congrArg (fun z:Int=>(I z:TS)) (by rw [hcs];omega))))
 ·refine bq _ _ _ ?_
  exact ay (by have hn:i=xs.length:=(by simp [kE] at hb;omega);subst hn;rw [iV];rfl)
set_option maxHeartbeats 8000000
theorem vM {α:Type} {c: α→Int} {N:Int}:∀ {xs:List α},(∀ x ∈ xs,c x ≤ N)→aA c xs ≤ N * xs.length
 | [],_=>by simp [aA]
 | x :: l,h=>by
  have h1:=h x uy
  have h2:=vM (xs:=l) fun y hy=>h y (xb _ hy)
  simp only [aA,List.length_cons]
  have h3:N * ((l.length + 1:Nat):Int)=N * l.length + N:=by rw [Int.natCast_add,Int.mul_add];simp
  omega
theorem jO {α:Type} {c: α→Int} {N:Int} {xs:List α} (hN:0 ≤ N) (h:∀ x ∈ xs,c x ≤ N) (hl:xs.length ≤ 1048576):aA c xs ≤ N * 1048576:=
 Int.le_trans (vM h) (Int.mul_le_mul_of_nonneg_left (by omega) hN)
theorem Hz {xs:List Int} (h:dP xs):eg xs ≤ 1048576:=by
 have:=jO (c:=iw) (N:=1) (by decide) (fun x _=>by simp [iw]) h
 unfold eg
 omega
theorem y3 {xs:List aQ} (h:eM xs):bF xs ≤ 2097152:=by
 have:=jO (c:=fJ) (N:=2) (by decide) (fun x _=>by simp [fJ]) h
 unfold bF
 omega
theorem WA {xs:List bZ} (h:ju xs):cQ xs ≤ 2097152:=by
 have:=jO (c:=gG) (N:=2) (by decide) (fun x _=>by simp [gG]) h
 unfold cQ
 omega
theorem KQ {xs:List Bool} (h:ou xs):dU xs ≤ 1048576:=by
 have:=jO (c:=fK) (N:=1) (by decide) (fun x _=>by simp [fK]) h
 unfold dU
 omega
theorem KR {xs:List (List Int)} (h:eD xs):bX xs ≤ 1099511627776:=by
 have:=jO (c:=BX) (N:=1048576) (by decide) (fun x hx=>Hz (h.2 x hx)) h.1
 unfold bX
 omega
theorem TN {x:ax} (h:aJ x):ey x ≤ 8388608:=by
 have h1:=WA h.1
 have h2:=y3 h.2.1
 have h3:=y3 h.2.2.1
 have h4:=Hz h.2.2.2
 unfold ey
 omega
theorem QJ {xs:List ax} (h:ki xs):eI xs ≤ 8796093022208:=by
 have:=jO (c:=ey) (N:=8388608) (by decide) (fun x hx=>TN (h.2 x hx)) h.1
 unfold eI
 omega
theorem TO {xs:List cE} (h:tf xs):lf xs ≤ 4398046511104:=by
 have:=jO (c:=fL) (N:=4194304) (by decide) (fun x hx=>by
  have h1:=KQ (h.2 x hx).1
  have h2:=y3 (h.2 x hx).2
  unfold fL
  omega) h.1
 unfold lf
 omega
theorem Y7 {x:aV} (h:bt x):Mr x ≤ 100000000000000:=by
 have h1:=y3 h.1
 have h2:=KR h.2.1
 have h3:=KQ h.2.2.1
 have h4:=QJ h.2.2.2.1
 have h5:=Hz h.2.2.2.2.1
 have h6:=TO h.2.2.2.2.2
 unfold Mr
 omega
section
variable {h:ap}
set_option maxRecDepth 100000
set_option maxHeartbeats 8000000
theorem HA {m p:Nat} {x:aV} {z s:aQ} (hh:aj h) (hx:bt x):aj (jk h m x p z s):=by
 refine ⟨hh.1,⟨by show (h.ai.set _ _).length ≤ _;rw [bD];exact hh.2.1.1,fun y hy=> ?_⟩, ?_, ?_⟩
 rcases lN hy with hy|rfl
 exact hh.2.1.2 y hy
 exact ⟨by show (x.ak.set _ _).length ≤ _;rw [bD];exact hx.1,hx.2.1,hx.2.2.1,hx.2.2.2.1,hx.2.2.2.2.1,Sl hx⟩
 show c4 (if _ then _ else _)
 split
 exact hh.2.2.1
 exact BW hh.2.2.1
 show c4 (if _ then _ else _)
 split
 exact hh.2.2.2
 exact BW hh.2.2.2
theorem OK {h:ap} {m p:Int}:guard h m p=none ∨ ∃ x z,h.ai[m.toNat]? = some x∧x.ak[p.toNat]? = some z∧eu h=true∧(guard h m p=some (kq h m.toNat x p.toNat) ∨ guard h m p=some (guarded h m.toNat x p.toNat z)):=by
 cases hp:ee h m p with
 | false=>exact .inl (Hs hp)
 | true=>
  have BV:=fD.1 hp
  have hx:h.ai[m.toNat]? = some (h.ai[m.toNat]'(by omega)):=bg (by omega)
  have hmo:=dZ (eE BV.1 hx)
  have hz:(h.ai[m.toNat]'(by omega)).ak[p.toNat]? = some ((h.ai[m.toNat]'(by omega)).ak[p.toNat]'(by omega)):=bg (by omega)
  refine .inr ⟨_,_,hx,hz,BV.1, ?_⟩
  rcases Decidable.em (((h.ai[m.toNat]'(by omega)).ak[p.toNat]'(by omega)).aN= -1) with h1|h1
  exact .inl (by rw [n6 hp,Hq hx hz h1])
  exact .inr (by rw [n6 hp,Hr hx hz h1])
theorem OL {m p:Int} (hh:aj h):aj ((guard h m p).getD h):=by
 rcases @OK h m p with h1|⟨x,z,hx,hz,_,h1⟩
 rw [h1];exact hh
 have hm:=hh.2.1.2 x (aH hx)
 rcases h1 with h1|h1
 rw [h1];exact nI hh (Fz hm)
 rw [h1];exact HA (nI hh (Fz hm)) (Fz hm)
end
end Go.Proofs.YtdliggkohdnipaaGreat.T
