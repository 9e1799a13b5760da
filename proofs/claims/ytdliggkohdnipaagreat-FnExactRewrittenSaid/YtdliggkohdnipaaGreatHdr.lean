import Derived.Test.YtdliggkohdnipaaGreatHqr
set_option linter.unusedVariables false
set_option linter.unusedSimpArgs false
namespace Go.Proofs.YtdliggkohdnipaaGreat.T
open Go
set_option maxRecDepth 100000
set_option maxHeartbeats 1000000
theorem sD (xs:List Int) (jg:c4 xs):aF Tryz.prog 64 [L 1 (xs.map bH)] (RL 1 (xs.map bH)):=by
 refine aF.w 22 Tryz.func64 fun w g0 _=> ?_
 have hlen:xs.length ≤ 1048576:=jg
 refine len ?_
 refine Wa ?_
 refine gA [] [] [] (fun (k:Nat)=>[.set 0 (L 1 (xs.map bH)), .set 3 (.one (.c (.ref ⟨7,[],0⟩))), .set 4 (I k)]) (fun (k:Nat)=>[(7,⟨false,[.own (.sl 1 (fill bH (bH 0) xs k))]⟩)]) (fun (k:Nat)=>k ≤ xs.length) (fun (k:Nat)=>xs.length - k) (0) (by simp) ?_
 refine ⟨(vv (by repeat' first|exact rfl|refine And.intro ?_ ?_|exact True.intro)),fun k hyp N1 bw=> ?_⟩
 have hyp:k ≤ xs.length:=hyp
 refine len ?_
 refine eJ (fun hb=> ?_) (fun hb=> ?_)
 have hk:k < xs.length:=by simpa using hb
 obtain ⟨x,hx⟩:=ev (xs:=xs) (k:=k) hk
 have hg:=lH (f:=bH) (z:=(bH 0)) hk
 have hs:=lI (f:=bH) (z:=(bH 0)) hx
 refine fN hx ?_
 refine cS (?_) (by rw [lG];omega)
 refine xT hg ?_
 refine cD ?_
 refine bw _ _ _ ?_
 refine vu [] (k + 1) (by omega) (by repeat' first|exact rfl|refine And.intro ?_ ?_|exact True.intro|(refine eV ?_;(rw [← hs])))
 refine bw _ _ _ ?_
 exact by simp at hb;rw [← lJ (f:=bH) (z:=(bH 0)) (k:=k) (by omega)];rfl
theorem vV (xs:List (List Int)) (jg:dY xs):aF Tryz.prog 126 [L 1 (xs.map aN)] (RL 1 (xs.map aN)):=by
 refine aF.w 23 Tryz.func126 fun w g0 _=> ?_
 have hlen:xs.length ≤ 1048576:=jg.1
 refine len ?_
 refine Wa ?_
 refine gA [] [] [] (fun (k:Nat)=>[.set 0 (L 1 (xs.map aN)), .set 3 (.one (.c (.ref ⟨7,[],0⟩))), .set 4 (I k)]) (fun (k:Nat)=>[(7,⟨false,[.own (.sl 1 (fill aN (aN []) xs k))]⟩)]) (fun (k:Nat)=>k ≤ xs.length) (fun (k:Nat)=>xs.length - k) (0) (by simp) ?_
 refine ⟨(vv (by repeat' first|exact rfl|refine And.intro ?_ ?_|exact True.intro)),fun k hyp N1 bw=> ?_⟩
 have hyp:k ≤ xs.length:=hyp
 refine len ?_
 refine eJ (fun hb=> ?_) (fun hb=> ?_)
 have hk:k < xs.length:=by simpa using hb
 obtain ⟨x,hx⟩:=ev (xs:=xs) (k:=k) hk
 have BT:c4 x:=jg.2 x (List.mem_of_getElem? hx)
 have hg:=lH (f:=aN) (z:=(aN [])) hk
 have hs:=lI (f:=aN) (z:=(aN [])) hx
 refine fN hx ?_
 refine bk (sD x BT).k ?_
 refine cS (?_) (by rw [lG];omega)
 refine xT hg ?_
 refine cD ?_
 refine bw _ _ _ ?_
 refine vu [] (k + 1) (by omega) (by repeat' first|exact rfl|refine And.intro ?_ ?_|exact True.intro|(refine eV ?_;(rw [← hs])))
 refine bw _ _ _ ?_
 exact by simp at hb;rw [← lJ (f:=aN) (z:=(aN [])) (k:=k) (by omega)];rfl
theorem HQ (x:aL):aF Tryz.prog 461 [A (gB x)] (RP (A (gB x))):=by
 refine aF.w 11 Tryz.func461 fun w g0 _=> ?_
 exact rfl
theorem nl (xs:List aL) (jg:dZ xs):aF Tryz.prog 361 [L 2 (xs.map aQ)] (RL 2 (xs.map aQ)):=by
 refine aF.w 23 Tryz.func361 fun w g0 _=> ?_
 have hlen:xs.length ≤ 1048576:=jg
 refine len ?_
 refine Wa ?_
 refine gA [] [] [] (fun (k:Nat)=>[.set 0 (L 2 (xs.map aQ)), .set 3 (.one (.c (.ref ⟨7,[],0⟩))), .set 4 (I k)]) (fun (k:Nat)=>[(7,⟨false,[.own (.sl 2 (fill aQ (aQ (aL.mk 0 0)) xs k))]⟩)]) (fun (k:Nat)=>k ≤ xs.length) (fun (k:Nat)=>xs.length - k) (0) (by simp) ?_
 refine ⟨(vv (by repeat' first|exact rfl|refine And.intro ?_ ?_|exact True.intro)),fun k hyp N1 bw=> ?_⟩
 have hyp:k ≤ xs.length:=hyp
 refine len ?_
 refine eJ (fun hb=> ?_) (fun hb=> ?_)
 have hk:k < xs.length:=by simpa using hb
 obtain ⟨x,hx⟩:=ev (xs:=xs) (k:=k) hk
 have hg:=lH (f:=aQ) (z:=(aQ (aL.mk 0 0))) hk
 have hs:=lI (f:=aQ) (z:=(aQ (aL.mk 0 0))) hx
 refine fN hx ?_
 refine ah (HQ x).k ?_
 refine cS (?_) (by rw [lG];omega)
 refine xT hg ?_
 refine cD ?_
 refine bw _ _ _ ?_
 refine vu [] (k + 1) (by omega) (by repeat' first|exact rfl|refine And.intro ?_ ?_|exact True.intro|(refine eV ?_;(rw [← hs])))
 refine bw _ _ _ ?_
 exact by simp at hb;rw [← lJ (f:=aQ) (z:=(aQ (aL.mk 0 0))) (k:=k) (by omega)];rfl
theorem vW (xs:List Bool) (jg:m4 xs):aF Tryz.prog 362 [L 1 (xs.map bz)] (RL 1 (xs.map bz)):=by
 refine aF.w 22 Tryz.func362 fun w g0 _=> ?_
 have hlen:xs.length ≤ 1048576:=jg
 refine len ?_
 refine Wa ?_
 refine gA [] [] [] (fun (k:Nat)=>[.set 0 (L 1 (xs.map bz)), .set 3 (.one (.c (.ref ⟨7,[],0⟩))), .set 4 (I k)]) (fun (k:Nat)=>[(7,⟨false,[.own (.sl 1 (fill bz (bz false) xs k))]⟩)]) (fun (k:Nat)=>k ≤ xs.length) (fun (k:Nat)=>xs.length - k) (0) (by simp) ?_
 refine ⟨(vv (by repeat' first|exact rfl|refine And.intro ?_ ?_|exact True.intro)),fun k hyp N1 bw=> ?_⟩
 have hyp:k ≤ xs.length:=hyp
 refine len ?_
 refine eJ (fun hb=> ?_) (fun hb=> ?_)
 have hk:k < xs.length:=by simpa using hb
 obtain ⟨x,hx⟩:=ev (xs:=xs) (k:=k) hk
 have hg:=lH (f:=bz) (z:=(bz false)) hk
 have hs:=lI (f:=bz) (z:=(bz false)) hx
 refine fN hx ?_
 refine cS (?_) (by rw [lG];omega)
 refine xT hg ?_
 refine cD ?_
 refine bw _ _ _ ?_
 refine vu [] (k + 1) (by omega) (by repeat' first|exact rfl|refine And.intro ?_ ?_|exact True.intro|(refine eV ?_;(rw [← hs])))
 refine bw _ _ _ ?_
 exact by simp at hb;rw [← lJ (f:=bz) (z:=(bz false)) (k:=k) (by omega)];rfl
theorem KN (x:iK):aF Tryz.prog 370 [A (E3 x)] (RP (A (E3 x))):=by
 refine aF.w 11 Tryz.func370 fun w g0 _=> ?_
 exact rfl
theorem HR (xs:List iK) (jg:qI xs):aF Tryz.prog 243 [L 2 (xs.map jt)] (RL 2 (xs.map jt)):=by
 refine aF.w 23 Tryz.func243 fun w g0 _=> ?_
 have hlen:xs.length ≤ 1048576:=jg
 refine len ?_
 refine Wa ?_
 refine gA [] [] [] (fun (k:Nat)=>[.set 0 (L 2 (xs.map jt)), .set 3 (.one (.c (.ref ⟨7,[],0⟩))), .set 4 (I k)]) (fun (k:Nat)=>[(7,⟨false,[.own (.sl 2 (fill jt (jt (iK.mk 0 0)) xs k))]⟩)]) (fun (k:Nat)=>k ≤ xs.length) (fun (k:Nat)=>xs.length - k) (0) (by simp) ?_
 refine ⟨(vv (by repeat' first|exact rfl|refine And.intro ?_ ?_|exact True.intro)),fun k hyp N1 bw=> ?_⟩
 have hyp:k ≤ xs.length:=hyp
 refine len ?_
 refine eJ (fun hb=> ?_) (fun hb=> ?_)
 have hk:k < xs.length:=by simpa using hb
 obtain ⟨x,hx⟩:=ev (xs:=xs) (k:=k) hk
 have hg:=lH (f:=jt) (z:=(jt (iK.mk 0 0))) hk
 have hs:=lI (f:=jt) (z:=(jt (iK.mk 0 0))) hx
 refine fN hx ?_
 refine ah (KN x).k ?_
 refine cS (?_) (by rw [lG];omega)
 refine xT hg ?_
 refine cD ?_
 refine bw _ _ _ ?_
 refine vu [] (k + 1) (by omega) (by repeat' first|exact rfl|refine And.intro ?_ ?_|exact True.intro|(refine eV ?_;(rw [← hs])))
 refine bw _ _ _ ?_
 exact by simp at hb;rw [← lJ (f:=jt) (z:=(jt (iK.mk 0 0))) (k:=k) (by omega)];rfl
theorem KO (x:mA):aF Tryz.prog 493 [A (s0 x)] (RP (A (s0 x))):=by
 refine aF.w 14 Tryz.func493 fun w g0 _=> ?_
 exact rfl
theorem HS (x:kF):aF Tryz.prog 494 [A (oJ x)] (RP (A (oJ x))):=by
 refine aF.w 17 Tryz.func494 fun w g0 _=> ?_
 exact rfl
theorem FM (x:av) (jg:aG x):aF Tryz.prog 462 [A (bB x)] (RG [.a (bB x)]):=by
 refine aF.w 41 Tryz.func462 fun w g0 _=> ?_
 refine bk (HR x.Prog jg.1).k ?_
 refine bk (nl x.Written jg.2.1).k ?_
 refine bk (nl x.Live jg.2.2.1).k ?_
 refine ah (KO x.iG).k ?_
 refine ah (HS x.Exit).k ?_
 refine bk (sD x.Seen jg.2.2.2).k ?_
 exact rfl
theorem C_ (xs:List av) (jg:ju xs):aF Tryz.prog 363 [L 15 (xs.map aY)] (RL 15 (xs.map aY)):=by
 refine aF.w 23 Tryz.func363 fun w g0 _=> ?_
 have hlen:xs.length ≤ 1048576:=jg.1
 refine len ?_
 refine Wa ?_
 refine gA [] [] [] (fun (k:Nat)=>[.set 0 (L 15 (xs.map aY)), .set 3 (.one (.c (.ref ⟨7,[],0⟩))), .set 4 (I k)]) (fun (k:Nat)=>[(7,⟨false,[.own (.sl 15 (fill aY (aY (av.mk [] 0 0 [] [] (mA.mk 0 0 false) 0 (kF.mk 0 0 false 0) false [])) xs k))]⟩)]) (fun (k:Nat)=>k ≤ xs.length) (fun (k:Nat)=>xs.length - k) (0) (by simp) ?_
 refine ⟨(vv (by repeat' first|exact rfl|refine And.intro ?_ ?_|exact True.intro)),fun k hyp N1 bw=> ?_⟩
 have hyp:k ≤ xs.length:=hyp
 refine len ?_
 refine eJ (fun hb=> ?_) (fun hb=> ?_)
 have hk:k < xs.length:=by simpa using hb
 obtain ⟨x,hx⟩:=ev (xs:=xs) (k:=k) hk
 have BT:aG x:=jg.2 x (List.mem_of_getElem? hx)
 have hg:=lH (f:=aY) (z:=(aY (av.mk [] 0 0 [] [] (mA.mk 0 0 false) 0 (kF.mk 0 0 false 0) false []))) hk
 have hs:=lI (f:=aY) (z:=(aY (av.mk [] 0 0 [] [] (mA.mk 0 0 false) 0 (kF.mk 0 0 false 0) false []))) hx
 refine fN hx ?_
 refine ak (FM x BT).k ?_
 refine cS (?_) (by rw [lG];omega)
 refine xT hg ?_
 refine cD ?_
 refine bw _ _ _ ?_
 refine vu [] (k + 1) (by omega) (by repeat' first|exact rfl|refine And.intro ?_ ?_|exact True.intro|(refine eV ?_;(rw [← hs])))
 refine bw _ _ _ ?_
 exact by simp at hb;rw [← lJ (f:=aY) (z:=(aY (av.mk [] 0 0 [] [] (mA.mk 0 0 false) 0 (kF.mk 0 0 false 0) false []))) (k:=k) (by omega)];rfl
theorem HT (x:bQ) (jg:de x):aF Tryz.prog 463 [A (fU x)] (RG [.a (fU x)]):=by
 refine aF.w 13 Tryz.func463 fun w g0 _=> ?_
 refine bk (vW x.bY jg.1).k ?_
 refine bk (nl x.c8 jg.2).k ?_
 exact rfl
theorem FN (xs:List bQ) (jg:rI xs):aF Tryz.prog 364 [L 2 (xs.map bS)] (RL 2 (xs.map bS)):=by
 refine aF.w 23 Tryz.func364 fun w g0 _=> ?_
 have hlen:xs.length ≤ 1048576:=jg.1
 refine len ?_
 refine Wa ?_
 refine gA [] [] [] (fun (k:Nat)=>[.set 0 (L 2 (xs.map bS)), .set 3 (.one (.c (.ref ⟨7,[],0⟩))), .set 4 (I k)]) (fun (k:Nat)=>[(7,⟨false,[.own (.sl 2 (fill bS (bS (bQ.mk [] [])) xs k))]⟩)]) (fun (k:Nat)=>k ≤ xs.length) (fun (k:Nat)=>xs.length - k) (0) (by simp) ?_
 refine ⟨(vv (by repeat' first|exact rfl|refine And.intro ?_ ?_|exact True.intro)),fun k hyp N1 bw=> ?_⟩
 have hyp:k ≤ xs.length:=hyp
 refine len ?_
 refine eJ (fun hb=> ?_) (fun hb=> ?_)
 have hk:k < xs.length:=by simpa using hb
 obtain ⟨x,hx⟩:=ev (xs:=xs) (k:=k) hk
 have BT:de x:=jg.2 x (List.mem_of_getElem? hx)
 have hg:=lH (f:=bS) (z:=(bS (bQ.mk [] []))) hk
 have hs:=lI (f:=bS) (z:=(bS (bQ.mk [] []))) hx
 refine fN hx ?_
 refine ak (HT x BT).k ?_
 refine cS (?_) (by rw [lG];omega)
 refine xT hg ?_
 refine cD ?_
 refine bw _ _ _ ?_
 refine vu [] (k + 1) (by omega) (by repeat' first|exact rfl|refine And.intro ?_ ?_|exact True.intro|(refine eV ?_;(rw [← hs])))
 refine bw _ _ _ ?_
 exact by simp at hb;rw [← lJ (f:=bS) (z:=(bS (bQ.mk [] []))) (k:=k) (by omega)];rfl
theorem KP (x:aO) (jg:bf x):aF Tryz.prog 231 [A (va x)] (RG [.a (va x)]):=by
 refine aF.w 38 Tryz.func231 fun w g0 _=> ?_
 refine bk (nl x.ai jg.1).k ?_
 refine bk (vV x.Out jg.2.1).k ?_
 refine bk (vW x.a_ jg.2.2.1).k ?_
 refine bk (C_ x.aa jg.2.2.2.1).k ?_
 refine bk (sD x.bX jg.2.2.2.2.1).k ?_
 refine bk (FN x.Tables jg.2.2.2.2.2).k ?_
 exact rfl
theorem HU (xs:List aO) (jg:tR xs):aF Tryz.prog 127 [L 9 (xs.map bh)] (RL 9 (xs.map bh)):=by
 refine aF.w 23 Tryz.func127 fun w g0 _=> ?_
 have hlen:xs.length ≤ 1048576:=jg.1
 refine len ?_
 refine Wa ?_
 refine gA [] [] [] (fun (k:Nat)=>[.set 0 (L 9 (xs.map bh)), .set 3 (.one (.c (.ref ⟨7,[],0⟩))), .set 4 (I k)]) (fun (k:Nat)=>[(7,⟨false,[.own (.sl 9 (fill bh (bh (aO.mk [] [] [] [] [] 0 0 [] 0)) xs k))]⟩)]) (fun (k:Nat)=>k ≤ xs.length) (fun (k:Nat)=>xs.length - k) (0) (by simp) ?_
 refine ⟨(vv (by repeat' first|exact rfl|refine And.intro ?_ ?_|exact True.intro)),fun k hyp N1 bw=> ?_⟩
 have hyp:k ≤ xs.length:=hyp
 refine len ?_
 refine eJ (fun hb=> ?_) (fun hb=> ?_)
 have hk:k < xs.length:=by simpa using hb
 obtain ⟨x,hx⟩:=ev (xs:=xs) (k:=k) hk
 have BT:bf x:=jg.2 x (List.mem_of_getElem? hx)
 have hg:=lH (f:=bh) (z:=(bh (aO.mk [] [] [] [] [] 0 0 [] 0))) hk
 have hs:=lI (f:=bh) (z:=(bh (aO.mk [] [] [] [] [] 0 0 [] 0))) hx
 refine fN hx ?_
 refine ak (KP x BT).k ?_
 refine cS (?_) (by rw [lG];omega)
 refine xT hg ?_
 refine cD ?_
 refine bw _ _ _ ?_
 refine vu [] (k + 1) (by omega) (by repeat' first|exact rfl|refine And.intro ?_ ?_|exact True.intro|(refine eV ?_;(rw [← hs])))
 refine bw _ _ _ ?_
 exact by simp at hb;rw [← lJ (f:=bh) (z:=(bh (aO.mk [] [] [] [] [] 0 0 [] 0))) (k:=k) (by omega)];rfl
theorem FO (x:bt):aF Tryz.prog 232 [A (nQ x)] (RP (A (nQ x))):=by
 refine aF.w 17 Tryz.func232 fun w g0 _=> ?_
 exact rfl
theorem uQ (xs:List bt) (jg:dh xs):aF Tryz.prog 128 [L 4 (xs.map aA)] (RL 4 (xs.map aA)):=by
 refine aF.w 23 Tryz.func128 fun w g0 _=> ?_
 have hlen:xs.length ≤ 1048576:=jg
 refine len ?_
 refine Wa ?_
 refine gA [] [] [] (fun (k:Nat)=>[.set 0 (L 4 (xs.map aA)), .set 3 (.one (.c (.ref ⟨7,[],0⟩))), .set 4 (I k)]) (fun (k:Nat)=>[(7,⟨false,[.own (.sl 4 (fill aA (aA (bt.mk 0 0 0 0)) xs k))]⟩)]) (fun (k:Nat)=>k ≤ xs.length) (fun (k:Nat)=>xs.length - k) (0) (by simp) ?_
 refine ⟨(vv (by repeat' first|exact rfl|refine And.intro ?_ ?_|exact True.intro)),fun k hyp N1 bw=> ?_⟩
 have hyp:k ≤ xs.length:=hyp
 refine len ?_
 refine eJ (fun hb=> ?_) (fun hb=> ?_)
 have hk:k < xs.length:=by simpa using hb
 obtain ⟨x,hx⟩:=ev (xs:=xs) (k:=k) hk
 have hg:=lH (f:=aA) (z:=(aA (bt.mk 0 0 0 0))) hk
 have hs:=lI (f:=aA) (z:=(aA (bt.mk 0 0 0 0))) hx
 refine fN hx ?_
 refine ah (FO x).k ?_
 refine cS (?_) (by rw [lG];omega)
 refine xT hg ?_
 refine cD ?_
 refine bw _ _ _ ?_
 refine vu [] (k + 1) (by omega) (by repeat' first|exact rfl|refine And.intro ?_ ?_|exact True.intro|(refine eV ?_;(rw [← hs])))
 refine bw _ _ _ ?_
 exact by simp at hb;rw [← lJ (f:=aA) (z:=(aA (bt.mk 0 0 0 0))) (k:=k) (by omega)];rfl
theorem ow (x:an) (jg:aj x):aF Tryz.prog 44 [A (aq x)] (RG [.a (aq x)]):=by
 refine aF.w 21 Tryz.func44 fun w g0 _=> ?_
 refine bk (vV x.au jg.1).k ?_
 refine bk (HU x.ap jg.2.1).k ?_
 refine bk (uQ x.Buffer jg.2.2.1).k ?_
 refine bk (uQ x.aC jg.2.2.2).k ?_
 exact rfl
theorem KQ (x:gn):aF Tryz.prog 129 [A (BG x)] (RP (A (BG x))):=by
 refine aF.w 23 Tryz.func129 fun w g0 _=> ?_
 exact rfl
theorem ox (xs:List gn) (jg:vw xs):aF Tryz.prog 45 [L 6 (xs.map lP)] (RL 6 (xs.map lP)):=by
 refine aF.w 23 Tryz.func45 fun w g0 _=> ?_
 have hlen:xs.length ≤ 1048576:=jg
 refine len ?_
 refine Wa ?_
 refine gA [] [] [] (fun (k:Nat)=>[.set 0 (L 6 (xs.map lP)), .set 3 (.one (.c (.ref ⟨7,[],0⟩))), .set 4 (I k)]) (fun (k:Nat)=>[(7,⟨false,[.own (.sl 6 (fill lP (lP (gn.mk 0 0 0 0 0 0)) xs k))]⟩)]) (fun (k:Nat)=>k ≤ xs.length) (fun (k:Nat)=>xs.length - k) (0) (by simp) ?_
 refine ⟨(vv (by repeat' first|exact rfl|refine And.intro ?_ ?_|exact True.intro)),fun k hyp N1 bw=> ?_⟩
 have hyp:k ≤ xs.length:=hyp
 refine len ?_
 refine eJ (fun hb=> ?_) (fun hb=> ?_)
 have hk:k < xs.length:=by simpa using hb
 obtain ⟨x,hx⟩:=ev (xs:=xs) (k:=k) hk
 have hg:=lH (f:=lP) (z:=(lP (gn.mk 0 0 0 0 0 0))) hk
 have hs:=lI (f:=lP) (z:=(lP (gn.mk 0 0 0 0 0 0))) hx
 refine fN hx ?_
 refine ah (KQ x).k ?_
 refine cS (?_) (by rw [lG];omega)
 refine xT hg ?_
 refine cD ?_
 refine bw _ _ _ ?_
 refine vu [] (k + 1) (by omega) (by repeat' first|exact rfl|refine And.intro ?_ ?_|exact True.intro|(refine eV ?_;(rw [← hs])))
 refine bw _ _ _ ?_
 exact by simp at hb;rw [← lJ (f:=lP) (z:=(lP (gn.mk 0 0 0 0 0 0))) (k:=k) (by omega)];rfl
def lC {α:Type} (f:Int→ α→ α) (c: α→Int):Int→List α→List α
 | _,[]=>[]
 | k,x :: l=>f k x :: lC f c (k + c x) l
def aU {α:Type} (c: α→Int):List α→Int
 | []=>0
 | x :: l=>c x + aU c l
theorem iz {α:Type} (f:Int→ α→ α) (c: α→Int):∀ (xs:List α) (k:Int),(lC f c k xs).length=xs.length
 | [],_=>rfl
 | x :: l,k=>by simp [lC,iz f c l]
theorem cP {α:Type} {c: α→Int} (h:∀ x,0 ≤ c x):∀ xs:List α,0 ≤ aU c xs
 | []=>Int.le_refl _
 | x :: l=>by have:=h x;have:=cP h l;simp only [aU];omega
theorem vX {α:Type} (c: α→Int):∀ xs ys:List α,aU c (xs ++ ys)=aU c xs + aU c ys
 | [],ys=>by simp [aU]
 | x :: l,ys=>by simp only [List.cons_append,aU,vX c l ys];omega
theorem fG {α:Type} {c: α→Int} {xs:List α} {i:Nat} {x: α} (hx:xs[i]? = some x):aU c (xs.take (i + 1))=aU c (xs.take i) + c x:=by
 rw [List.take_add_one,hx,vX]
 simp [aU]
theorem iA {α:Type} {c: α→Int} (h:∀ x,0 ≤ c x) (xs:List α) (i:Nat):aU c (xs.take i) ≤ aU c xs:=by
 have:=vX c (xs.take i) (xs.drop i)
 rw [List.take_append_drop] at this
 have:=cP h (xs.drop i)
 omega
theorem gT {α:Type} (f:Int→ α→ α) (c: α→Int):∀ {xs:List α} {i:Nat} {x: α} (k:Int),xs[i]? = some x→(lC f c k xs)[i]? = some (f (k + aU c (xs.take i)) x)
 | [],i,x,k,h=>by simp at h
 | y :: l,0,x,k,h=>by
  simp only [List.getElem?_cons_zero,Option.some.injEq] at h
  subst h
  simp [lC,aU]
 | y :: l,i + 1,x,k,h=>by
  have:=gT f c (k + c y) (xs:=l) (i:=i) (by simpa using h)
  simp only [lC,List.getElem?_cons_succ,List.take_succ_cons,aU,this]
  congr 2
  omega
def za (k:Int) (_:Int):Int:=k
def fS (_:Int):Int:=1
theorem q5 (x:Int):0 ≤ fS x:=by simp [fS]
def lD (k:Int) (xs:List Int):List Int:=lC za fS k xs
def eI (xs:List Int):Int:=aU fS xs
theorem jV (xs:List Int):0 ≤ eI xs:=cP q5 xs
theorem kN (k:Int) (xs:List Int):(lD k xs).length=xs.length:=iz _ _ _ _
abbrev Xl:=lD
abbrev vY:=eI
theorem M5 (xs:List Int):0 ≤ vY xs:=jV xs
def oy (k:Int) (xs:List (List Int)):List (List Int):=lC Xl vY k xs
def di (xs:List (List Int)):Int:=aU vY xs
theorem oS (xs:List (List Int)):0 ≤ di xs:=cP M5 xs
theorem mK (k:Int) (xs:List (List Int)):(oy k xs).length=xs.length:=iz _ _ _ _
def DY (k:Int) (x:aL):aL:=⟨(k),(k + 1)⟩
def jC (_:aL):Int:=1 + 1
theorem vZ (x:aL):0 ≤ jC x:=by
 unfold jC
 omega
def mm (k:Int) (xs:List aL):List aL:=lC DY jC k xs
def bI (xs:List aL):Int:=aU jC xs
theorem jK (xs:List aL):0 ≤ bI xs:=cP vZ xs
theorem mL (k:Int) (xs:List aL):(mm k xs).length=xs.length:=iz _ _ _ _
def DZ (k:Int) (_:Bool):Bool:=(k.tmod 3 == 0)
def jD (_:Bool):Int:=1
theorem v7 (x:Bool):0 ≤ jD x:=by simp [jD]
def oz (k:Int) (xs:List Bool):List Bool:=lC DZ jD k xs
def fI (xs:List Bool):Int:=aU jD xs
theorem rQ (xs:List Bool):0 ≤ fI xs:=cP v7 xs
theorem mM (k:Int) (xs:List Bool):(oz k xs).length=xs.length:=iz _ _ _ _
def KR (k:Int) (x:iK):iK:=⟨(k),(k + 1)⟩
def k8 (_:iK):Int:=1 + 1
theorem zb (x:iK):0 ≤ k8 x:=by
 unfold k8
 omega
def ug (k:Int) (xs:List iK):List iK:=lC KR k8 k xs
def ff (xs:List iK):Int:=aU k8 xs
theorem FP (xs:List iK):0 ≤ ff xs:=cP zb xs
theorem nT (k:Int) (xs:List iK):(ug k xs).length=xs.length:=iz _ _ _ _
def AB (k:Int) (x:av):av:=⟨(ug (k) x.Prog),(k + ff x.Prog),(k + ff x.Prog + 1),(mm (k + ff x.Prog + 1 + 1) x.Written),(mm (k + ff x.Prog + 1 + 1 + bI x.Written) x.Live),⟨(k + ff x.Prog + 1 + 1 + bI x.Written + bI x.Live),(k + ff x.Prog + 1 + 1 + bI x.Written + bI x.Live + 1),((k + ff x.Prog + 1 + 1 + bI x.Written + bI x.Live + 1 + 1).tmod 3 == 0)⟩,(k + ff x.Prog + 1 + 1 + bI x.Written + bI x.Live + 1 + 1 + 1),⟨(k + ff x.Prog + 1 + 1 + bI x.Written + bI x.Live + 1 + 1 + 1 + 1),(k + ff x.Prog + 1 + 1 + bI x.Written + bI x.Live + 1 + 1 + 1 + 1 + 1),((k + ff x.Prog + 1 + 1 + bI x.Written + bI x.Live + 1 + 1 + 1 + 1 + 1 + 1).tmod 3 == 0),(k + ff x.Prog + 1 + 1 + bI x.Written + bI x.Live + 1 + 1 + 1 + 1 + 1 + 1 + 1)⟩,((k + ff x.Prog + 1 + 1 + bI x.Written + bI x.Live + 1 + 1 + 1 + 1 + 1 + 1 + 1 + 1).tmod 3 == 0),(lD (k + ff x.Prog + 1 + 1 + bI x.Written + bI x.Live + 1 + 1 + 1 + 1 + 1 + 1 + 1 + 1 + 1) x.Seen)⟩
def gM (x:av):Int:=ff x.Prog + 1 + 1 + bI x.Written + bI x.Live + 1 + 1 + 1 + 1 + 1 + 1 + 1 + 1 + 1 + eI x.Seen
theorem uh (x:av):0 ≤ gM x:=by
 have:=FP x.Prog
 have:=jK x.Written
 have:=jK x.Live
 have:=jV x.Seen
 unfold gM
 omega
def nq (k:Int) (xs:List av):List av:=lC AB gM k xs
def gN (xs:List av):Int:=aU gM xs
theorem AD (xs:List av):0 ≤ gN xs:=cP uh xs
theorem k9 (k:Int) (xs:List av):(nq k xs).length=xs.length:=iz _ _ _ _
def D0 (k:Int) (x:bQ):bQ:=⟨(oz (k) x.bY),(mm (k + fI x.bY) x.c8)⟩
def iZ (x:bQ):Int:=fI x.bY + bI x.c8
theorem v8 (x:bQ):0 ≤ iZ x:=by
 have:=rQ x.bY
 have:=jK x.c8
 unfold iZ
 omega
def pV (k:Int) (xs:List bQ):List bQ:=lC D0 iZ k xs
def oT (xs:List bQ):Int:=aU iZ xs
theorem CK (xs:List bQ):0 ≤ oT xs:=cP v8 xs
theorem mN (k:Int) (xs:List bQ):(pV k xs).length=xs.length:=iz _ _ _ _
def KS (k:Int) (x:aO):aO:=⟨(mm (k) x.ai),(oy (k + bI x.ai) x.Out),(oz (k + bI x.ai + di x.Out) x.a_),(nq (k + bI x.ai + di x.Out + fI x.a_) x.aa),(lD (k + bI x.ai + di x.Out + fI x.a_ + gN x.aa) x.bX),(k + bI x.ai + di x.Out + fI x.a_ + gN x.aa + eI x.bX),(k + bI x.ai + di x.Out + fI x.a_ + gN x.aa + eI x.bX + 1),(pV (k + bI x.ai + di x.Out + fI x.a_ + gN x.aa + eI x.bX + 1 + 1) x.Tables),(k + bI x.ai + di x.Out + fI x.a_ + gN x.aa + eI x.bX + 1 + 1 + oT x.Tables)⟩
def kz (x:aO):Int:=bI x.ai + di x.Out + fI x.a_ + gN x.aa + eI x.bX + 1 + 1 + oT x.Tables + 1
theorem zc (x:aO):0 ≤ kz x:=by
 have:=jK x.ai
 have:=oS x.Out
 have:=rQ x.a_
 have:=AD x.aa
 have:=jV x.bX
 have:=CK x.Tables
 unfold kz
 omega
def uj (k:Int) (xs:List aO):List aO:=lC KS kz k xs
def kA (xs:List aO):Int:=aU kz xs
theorem ze (xs:List aO):0 ≤ kA xs:=cP zc xs
theorem nU (k:Int) (xs:List aO):(uj k xs).length=xs.length:=iz _ _ _ _
def AE (k:Int) (x:bt):bt:=⟨(k),(k + 1),(k + 1 + 1),(k + 1 + 1 + 1)⟩
def ic (_:bt):Int:=1 + 1 + 1 + 1
theorem uk (x:bt):0 ≤ ic x:=by
 unfold ic
 omega
def lW (k:Int) (xs:List bt):List bt:=lC AE ic k xs
def fK (xs:List bt):Int:=aU ic xs
theorem k_ (xs:List bt):0 ≤ fK xs:=cP uk xs
theorem ld (k:Int) (xs:List bt):(lW k xs).length=xs.length:=iz _ _ _ _
def q6 (x:an):Int:=di x.au + kA x.ap + fK x.Buffer + fK x.aC
theorem M6 (x:an):0 ≤ q6 x:=by
 have:=oS x.au
 have:=ze x.ap
 have:=k_ x.Buffer
 have:=k_ x.aC
 unfold q6
 omega
def KT (k:Int) (x:gn):gn:=⟨(k),(k + 1),(k + 1 + 1),(k + 1 + 1 + 1),(k + 1 + 1 + 1 + 1),(k + 1 + 1 + 1 + 1 + 1)⟩
def lf (_:gn):Int:=1 + 1 + 1 + 1 + 1 + 1
theorem zf (x:gn):0 ≤ lf x:=by
 unfold lf
 omega
def v_ (k:Int) (xs:List gn):List gn:=lC KT lf k xs
def xj (xs:List gn):Int:=aU lf xs
theorem O6 (xs:List gn):0 ≤ xj xs:=cP zf xs
theorem nV (k:Int) (xs:List gn):(v_ k xs).length=xs.length:=iz _ _ _ _
theorem q7 {α:Type} {f: α→Int→Int} {c: α→Int} (h:∀ x n,0 ≤ f x n→c x ≤ 32 * (n - f x n) + 32):∀ (xs:List α) (n:Int),0 ≤ iu f xs n→aU c xs ≤ 32 * (n - iu f xs n) + 32 * xs.length
 | [],n,_=>by simp [iu,aU]
 | x :: l,n,hn=>by
  unfold iu at hn ⊢
  split at hn
  omega
  rename_i h0
  rw [if_neg h0]
  have h1:=h x n (by omega)
  have h2:=q7 h l _ hn
  simp only [aU,List.length_cons]
  omega
theorem jW {α:Type} {c: α→Int} (h:∀ x,c x ≤ 32):∀ (xs:List α),aU c xs ≤ 32 * xs.length
 | []=>by simp [aU]
 | x :: l=>by
  have h1:=h x
  have h2:=jW h l
  simp only [aU,List.length_cons]
  omega
theorem zg (xs:List Int) (n:Int) (h:0 ≤ iv xs n):eI xs ≤ 32 * (n - iv xs n):=by
 unfold iv at h ⊢
 split at h
 omega
 rename_i h0
 rw [if_neg h0]
 have:=jW (c:=fS) (fun x=>by simp [fS]) xs
 unfold eI
 omega
theorem M7 (xs:List Int) (n:Int) (h:0 ≤ iv xs n):vY xs ≤ 32 * (n - iv xs n) + 32:=by
 have:=zg xs n h
 show eI xs ≤ _
 omega
theorem CL (xs:List (List Int)) (n:Int) (h:0 ≤ bP xs n):di xs ≤ 32 * (n - bP xs n):=by
 unfold bP at h ⊢
 split at h
 omega
 rename_i h0
 rw [if_neg h0]
 have:=q7 (c:=vY) (fun x n hx=>M7 x n hx) xs _ h
 unfold di
 omega
theorem rR (xs:List aL) (n:Int) (h:0 ≤ bE xs n):bI xs ≤ 32 * (n - bE xs n):=by
 unfold bE at h ⊢
 split at h
 omega
 rename_i h0
 rw [if_neg h0]
 have:=jW (c:=jC) (fun x=>by simp [jC]) xs
 unfold bI
 omega
theorem CM (xs:List Bool) (n:Int) (h:0 ≤ dF xs n):fI xs ≤ 32 * (n - dF xs n):=by
 unfold dF at h ⊢
 split at h
 omega
 rename_i h0
 rw [if_neg h0]
 have:=jW (c:=jD) (fun x=>by simp [jD]) xs
 unfold fI
 omega
theorem O7 (xs:List iK) (n:Int) (h:0 ≤ f_ xs n):ff xs ≤ 32 * (n - f_ xs n):=by
 unfold f_ at h ⊢
 split at h
 omega
 rename_i h0
 rw [if_neg h0]
 have:=jW (c:=k8) (fun x=>by simp [k8]) xs
 unfold ff
 omega
theorem KU (x:av) (n:Int) (h:0 ≤ iT x n):gM x ≤ 32 * (n - iT x n) + 32:=by
 unfold iT at h ⊢
 simp only [eC] at h ⊢
 have e0:=O7 x.Prog (n)
 have e1:=rR x.Written (f_ x.Prog (n))
 have e2:=rR x.Live (bE x.Written (f_ x.Prog (n)))
 have e3:=zg x.Seen (bE x.Live (bE x.Written (f_ x.Prog (n))))
 repeat' split at h
 all_goals (try omega)
 simp only [*,if_false]
 simp only [Int.not_lt] at *
 unfold gM
 have e0:=e0 (by omega)
 have e1:=e1 (by omega)
 have e2:=e2 (by omega)
 have e3:=e3 (by omega)
 omega
theorem KV (xs:List av) (n:Int) (h:0 ≤ ew xs n):gN xs ≤ 32 * (n - ew xs n):=by
 unfold ew at h ⊢
 split at h
 omega
 rename_i h0
 rw [if_neg h0]
 have:=q7 (c:=gM) (fun x n hx=>KU x n hx) xs _ h
 unfold gN
 omega
theorem M8 (x:bQ) (n:Int) (h:0 ≤ mB x n):iZ x ≤ 32 * (n - mB x n) + 32:=by
 unfold mB at h ⊢
 simp only [eC] at h ⊢
 have e0:=CM x.bY (n)
 have e1:=rR x.c8 (dF x.bY (n))
 repeat' split at h
 all_goals (try omega)
 simp only [*,if_false]
 simp only [Int.not_lt] at *
 unfold iZ
 have e0:=e0 (by omega)
 have e1:=e1 (by omega)
 omega
theorem M9 (xs:List bQ) (n:Int) (h:0 ≤ l8 xs n):oT xs ≤ 32 * (n - l8 xs n):=by
 unfold l8 at h ⊢
 split at h
 omega
 rename_i h0
 rw [if_neg h0]
 have:=q7 (c:=iZ) (fun x n hx=>M8 x n hx) xs _ h
 unfold oT
 omega
theorem O8 (x:aO) (n:Int) (h:0 ≤ m5 x n):kz x ≤ 32 * (n - m5 x n) + 32:=by
 unfold m5 at h ⊢
 simp only [eC] at h ⊢
 have e0:=rR x.ai (n)
 have e1:=CL x.Out (bE x.ai (n))
 have e2:=CM x.a_ (bP x.Out (bE x.ai (n)))
 have e3:=KV x.aa (dF x.a_ (bP x.Out (bE x.ai (n))))
 have e4:=zg x.bX (ew x.aa (dF x.a_ (bP x.Out (bE x.ai (n)))))
 have e5:=M9 x.Tables (iv x.bX (ew x.aa (dF x.a_ (bP x.Out (bE x.ai (n))))))
 repeat' split at h
 all_goals (try omega)
 simp only [*,if_false]
 simp only [Int.not_lt] at *
 unfold kz
 have e0:=e0 (by omega)
 have e1:=e1 (by omega)
 have e2:=e2 (by omega)
 have e3:=e3 (by omega)
 have e4:=e4 (by omega)
 have e5:=e5 (by omega)
 omega
theorem O9 (xs:List aO) (n:Int) (h:0 ≤ iL xs n):kA xs ≤ 32 * (n - iL xs n):=by
 unfold iL at h ⊢
 split at h
 omega
 rename_i h0
 rw [if_neg h0]
 have:=q7 (c:=kz) (fun x n hx=>O8 x n hx) xs _ h
 unfold kA
 omega
theorem AF (xs:List bt) (n:Int) (h:0 ≤ gW xs n):fK xs ≤ 32 * (n - gW xs n):=by
 unfold gW at h ⊢
 split at h
 omega
 rename_i h0
 rw [if_neg h0]
 have:=jW (c:=ic) (fun x=>by simp [ic]) xs
 unfold fK
 omega
theorem M_ (x:an) (n:Int) (h:0 ≤ mC x n):q6 x ≤ 32 * (n - mC x n):=by
 unfold mC at h ⊢
 simp only [eC] at h ⊢
 have e0:=CL x.au (n)
 have e1:=O9 x.ap (bP x.au (n))
 have e2:=AF x.Buffer (iL x.ap (bP x.au (n)))
 have e3:=AF x.aC (gW x.Buffer (iL x.ap (bP x.au (n))))
 repeat' split at h
 all_goals (try omega)
 simp only [*,if_false]
 simp only [Int.not_lt] at *
 unfold q6
 have e0:=e0 (by omega)
 have e1:=e1 (by omega)
 have e2:=e2 (by omega)
 have e3:=e3 (by omega)
 omega
theorem O_ (xs:List gn) (n:Int) (h:0 ≤ sj xs n):xj xs ≤ 32 * (n - sj xs n):=by
 unfold sj at h ⊢
 split at h
 omega
 rename_i h0
 rw [if_neg h0]
 have:=jW (c:=lf) (fun x=>by simp [lf]) xs
 unfold xj
 omega
end Go.Proofs.YtdliggkohdnipaaGreat.T
