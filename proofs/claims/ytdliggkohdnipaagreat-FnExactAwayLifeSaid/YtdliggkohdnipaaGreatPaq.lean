import Derived.Test.YtdliggkohdnipaaGreatPlq
import Derived.Test.YtdliggkohdnipaaGreatNsq
import Derived.Test.YtdliggkohdnipaaGreatRpq
set_option linter.unusedVariables false
set_option linter.unusedSimpArgs false
namespace Go.Proofs.YtdliggkohdnipaaGreat.T
open Go
section
variable {mi pi:Int} {row:List D} {m p:Nat} {h:ap} {x:aV} {z:aQ}
set_option maxRecDepth 100000
set_option maxHeartbeats 8000000
theorem B7 (h:ap) (m:Nat) (x:aV) (p:Nat) (z:aQ) (CA:mi=m) (Hh:pi=p) (hr:row=aq h) (hs:oV h) (ha:ku h) (hx:h.ai[m]? = some x) (hz:x.ak[p]? = some z) (h1:z.aN= -1):
  eH Tryz.prog 295 ⟨true,row⟩ [.one (.ptr ⟨1000001,[],0⟩),I mi,I pi] (zx (aq (cB h m p)) (.mj [])):=by
 subst hr CA Hh
 exact MD h m x p z hs ha hx hz h1
theorem B8 (h:ap) (m:Nat) (x:aV) (p:Nat) (z:aQ) (CA:mi=m) (Hh:pi=p) (hr:row=aq h) (hs:oV h) (ha:ku h) (hx:h.ai[m]? = some x) (hz:x.ak[p]? = some z) (h1:z.aN= -1):
  ng Tryz.prog 432 row [.one (.agg [.ref ⟨1000000,[],0⟩, .ref ⟨1000000,[],1⟩, .ref ⟨1000000,[],2⟩, .ref ⟨1000000,[],3⟩]),I mi,I pi] (RG [.a (aq (cB h m p))]):=by
 subst hr CA Hh
 exact ME h m x p z hs ha hx hz h1
theorem Df {m p:Int} (hp:ee h m p=false):m4 h m p=none:=by unfold m4;rw [hp];rfl
theorem AZ {m p:Int} (hx:h.ai[m.toNat]? = some x) (hz:x.ak[p.toNat]? = some z) (h1:¬ z.aN= -1):m4 h m p=none:=by
 unfold m4
 rw [iv hx hz,decide_eq_false h1,jt]
 rfl
theorem A0 {m p:Int} (hp:ee h m p=true) (hx:h.ai[m.toNat]? = some x) (hz:x.ak[p.toNat]? = some z) (h1:z.aN= -1):m4 h m p=some (cB h m.toNat p.toNat):=by
 unfold m4
 rw [iv hx hz,decide_eq_true h1,hp]
 rfl
theorem yb (hs:oV h) (ha:ku h) (hx:h.ai[m]? = some x) (hz:x.ak[p]? = some z) (h1:z.aN= -1):∃ y t,(cB h m p).ai[m]? = some y∧y.ak[p]? = some ⟨t,3⟩∧0 ≤ t:=by
 obtain ⟨x1,t,l,hr,D5⟩:=y5 hs ha hx hz h1
 have h8:=(hr.hs.cK hr.hx).2.1
 have hp:p < 8:=by have:=(aM.1 hr.hz).1;have:=(hr.hs.cK hr.hx).1;omega
 obtain ⟨y,hy⟩:∃ y,x1.Out[p]? = some y:=⟨_,bg (by omega)⟩
 unfold cB
 rw [tG hr hy]
 exact ⟨_,t,dS (dS hr.hx),dS hr.hz,hr.ht.1⟩
theorem vQ {r:Int} (h:0 ≤ r∧r ≤ 3):fS r 2=true ↔ ¬ s5 r 2=0:=by
 have:r=0 ∨ r=1 ∨ r=2 ∨ r=3:=by omega
 rcases this with rfl|rfl|rfl|rfl <;> decide
def wI (x:aV) (p:Nat):aV:={ x with bI:=x.bI.set p true }
def tH (h:ap) (m:Nat) (x:aV) (p:Nat):ap:={ h with ai:=h.ai.set m (wI x p) }
def HP (x:aV) (p:Nat) (z:aQ):aV:={ x with ak:=x.ak.set p ⟨z.aN,3⟩,bI:=x.bI.set p true }
def HQ (h:ap) (m:Nat) (x:aV) (p:Nat) (z:aQ):ap:={ h with ai:=h.ai.set m (HP x p z) }
abbrev vR (h:ap) (m:Nat) (x:aV) (p:Nat):List D:=[.sl 1 (h.au.map aP), .sl 9 ((h.ai.map bA).set m (.st [.sl 2 (x.ak.map aT), .sl 1 (x.Out.map aP), .sl 1 ((x.bI.map bO).set p (.v (.bool true))), .sl 15 (x.aa.map bp), .sl 1 (x.cm.map bS), .v (.int .i64 x.av), .v (.int .i64 x.bn), .sl 2 (x.Tables.map cz), .v (.int .i64 x.Own)])), .sl 4 (h.Buffer.map aC), .sl 4 (h.aD.map aC)]
abbrev FD (h:ap) (m:Nat) (x:aV) (p:Nat) (z:aQ):List D:=[.sl 1 (h.au.map aP), .sl 9 (((h.ai.map bA).set m (.st [.sl 2 (x.ak.map aT), .sl 1 (x.Out.map aP), .sl 1 ((x.bI.map bO).set p (.v (.bool true))), .sl 15 (x.aa.map bp), .sl 1 (x.cm.map bS), .v (.int .i64 x.av), .v (.int .i64 x.bn), .sl 2 (x.Tables.map cz), .v (.int .i64 x.Own)])).set m (.st [.sl 2 ((x.ak.map aT).set p (.st [.v (.int .i64 z.aN), .v (.int .i64 3)])), .sl 1 (x.Out.map aP), .sl 1 ((x.bI.map bO).set p (.v (.bool true))), .sl 15 (x.aa.map bp), .sl 1 (x.cm.map bS), .v (.int .i64 x.av), .v (.int .i64 x.bn), .sl 2 (x.Tables.map cz), .v (.int .i64 x.Own)])), .sl 4 (h.Buffer.map aC), .sl 4 (h.aD.map aC)]
theorem jh (h:ap) (m:Nat) (x:aV) (p:Nat):vR h m x p=aq (tH h m x p):=by
 have e:bA (wI x p)= .st [.sl 2 (x.ak.map aT), .sl 1 (x.Out.map aP), .sl 1 ((x.bI.map bO).set p (.v (.bool true))), .sl 15 (x.aa.map bp), .sl 1 (x.cm.map bS), .v (.int .i64 x.av), .v (.int .i64 x.bn), .sl 2 (x.Tables.map cz), .v (.int .i64 x.Own)]:=by
  show D.st [_,_, .sl 1 ((x.bI.set p true).map bO),_,_,_,_,_,_]=_
  rw [bL]
  rfl
 unfold vR tH
 show _=[_,D.sl 9 ((h.ai.set m (wI x p)).map bA),_,_]
 rw [bL,e]
theorem HR (h:ap) (m:Nat) (x:aV) (p:Nat) (z:aQ):FD h m x p z=aq (HQ h m x p z):=by
 have e:bA (HP x p z)= .st [.sl 2 ((x.ak.map aT).set p (.st [.v (.int .i64 z.aN), .v (.int .i64 3)])), .sl 1 (x.Out.map aP), .sl 1 ((x.bI.map bO).set p (.v (.bool true))), .sl 15 (x.aa.map bp), .sl 1 (x.cm.map bS), .v (.int .i64 x.av), .v (.int .i64 x.bn), .sl 2 (x.Tables.map cz), .v (.int .i64 x.Own)]:=by
  show D.st [.sl 2 ((x.ak.set p ⟨z.aN,3⟩).map aT),_, .sl 1 ((x.bI.set p true).map bO),_,_,_,_,_,_]=_
  rw [bL,bL]
  rfl
 unfold FD HQ
 rw [cS]
 show _=[_,D.sl 9 ((h.ai.set m (HP x p z)).map bA),_,_]
 rw [bL,e]
theorem OU (hx:bt x):bt (wI x p):=⟨hx.1,hx.2.1,by show (x.bI.set _ _).length ≤ _;rw [bD];exact hx.2.2.1,hx.2.2.2⟩
theorem KW (hx:Y8 x):Y8 (wI x p):=⟨hx.1,hx.2.1,by show (x.bI.set _ _).length=_;rw [bD];exact hx.2.2.1,hx.2.2.2⟩
theorem WU (hx:bt x):bt (HP x p z):=⟨by show (x.ak.set _ _).length ≤ _;rw [bD];exact hx.1,hx.2.1,by show (x.bI.set _ _).length ≤ _;rw [bD];exact hx.2.2.1,hx.2.2.2⟩
theorem pL (hh:oV h) (hx:h.ai[m]? = some x):oV (tH h m x p):=FA hh (OU (hh.sm hx)) (KW (hh.cK hx))
theorem OV (hh:oV h) (hx:h.ai[m]? = some x):aj (HQ h m x p z):=nI hh.1 (WU (hh.sm hx))
theorem yc (hx:h.ai[m]? = some x):lT h m p true=tH h m x p:=by
 unfold lT fT
 rw [lZ hx]
 rfl
theorem tI (hx:h.ai[m]? = some x) (hz:x.ak[p]? = some z) (h1:¬ s5 z.bf 2=0):zB h m p=tH h m x p:=by
 unfold zB
 rw [iv hx hz,if_neg h1,yc hx]
theorem sS (hx:h.ai[m]? = some x) (hz:x.ak[p]? = some z) (h1:s5 z.bf 2=0):zB h m p=jk (tH h m x p) m (wI x p) p z ⟨z.aN,3⟩:=by
 unfold zB
 rw [iv hx hz,if_pos h1,yc hx,sK (h:=tH h m x p) (dS hx) (show (wI x p).ak[p]? = some z from hz)]
 rfl
theorem KX (hx:h.ai[m]? = some x) (hz:x.ak[p]? = some z) (h1:s5 z.bf 2=0):zB h m p=spoilt (HQ h m x p z) m (HP x p z) p z:=by
 rw [sS hx hz h1]
 unfold jk tH spoilt HQ
 simp only [cS]
 rfl
theorem OW (hh:oV h) (hx:h.ai[m]? = some x) (hz:x.ak[p]? = some z):oV (zB h m p):=by
 by_cases h1:s5 z.bf 2=0
 rw [sS hx hz h1]
 exact HB (pL hh hx) (OU (hh.sm hx)) (KW (hh.cK hx))
 rw [tI hx hz h1]
 exact pL hh hx
def XT (z:aQ):Prop:=0 ≤ z.bf∧z.bf ≤ 3∧(z.aN= -1→z.bf=0)
theorem OX {need:Int} (hs:oV h) (ha:ku h) (hx:h.ai[m]? = some x) (hz:x.ak[p]? = some z):oV (cP h m p need):=by
 unfold cP
 rw [iv hx hz]
 by_cases h1:z.aN= -1
 have h2:=u0 hs ha hx hz h1
 obtain ⟨y,t,h3,h4,_⟩:=yb hs ha hx hz h1
 simp only [if_pos h1]
 split
 exact h2
 exact OW h2 h3 h4
 simp only [if_neg h1]
 split
 exact hs
 exact OW hs hx hz
theorem Jx (h:ap) (m:Int) (p:Int) [Q (aj h)]:aF Tryz.prog 174 [A (aq h),I m,I p] (RG [.a (aq ((m4 h m p).getD h)), .c (.v (.bool (m4 h m p).isSome))]):=by
 refine aF.w 34 Tryz.func174 fun w g0 hM=> ?_
 have eW:=hM.1.2.1.map
 refine an (aY h).k ?_
 refine ah (sI h m p).k ?_
 refine aB ?_ ?_ <;> intro Py
 ·exact (by rw [Df ‹_›];rfl)
 ·have BV:=fD.1 (by assumption:ee h m p=true)
  obtain ⟨x,hx⟩:∃ x,h.ai[m.toNat]? = some x:=⟨_,bg (by omega)⟩
  have hmo:=dZ (eE BV.1 hx)
  obtain ⟨z,hz⟩:∃ z,x.ak[p.toNat]? = some z:=⟨_,bg (by omega)⟩
  have hsh:=Mx BV.1 (by assumption:Q (aj h)).h
  have UP:=B1 BV.1
  refine dM hx ?_
  skip
  skip
  refine dM hz ?_
  skip
  skip
  refine aB ?_ ?_ <;> intro hb
  ·exact (by rw [AZ hx hz (by omega)];rfl)
  ·refine qD 8 (B7 (mi:=m) (pi:=p) h m.toNat x p.toNat z (by omega) (by omega) rfl hsh UP hx hz (by omega)) ?_
   exact (by rw [A0 ‹_› hx hz (by omega)];rfl)
theorem Jy (h:ap) (m:Int) (p:Int) [Q (aj h)]:aF Tryz.prog 333 [A (aq h),I m,I p] (RG [.a (aq ((m4 h m p).getD h)), .c (.v (.bool (m4 h m p).isSome))]):=by
 refine aF.w 33 Tryz.func333 fun w g0 hM=> ?_
 have eW:=hM.1.2.1.map
 refine an (cF h).k ?_
 refine o_ ?_
 refine iL (rI h m p).k ?_
 refine aB ?_ ?_ <;> intro Py
 exact (by rw [Df ‹_›];rfl)
 have BV:=fD.1 (by assumption:ee h m p=true)
 obtain ⟨x,hx⟩:∃ x,h.ai[m.toNat]? = some x:=⟨_,bg (by omega)⟩
 have hmo:=dZ (eE BV.1 hx)
 obtain ⟨z,hz⟩:∃ z,x.ak[p.toNat]? = some z:=⟨_,bg (by omega)⟩
 have hsh:=Mx BV.1 (by assumption:Q (aj h)).h
 have UP:=B1 BV.1
 have XW:=Sk BV.1 hx hz
 have TG:bE.aN= -1:=rfl
 have TH:bE.bf=0:=rfl
 refine bl ?_
 refine aL ‹_› ?_
 refine aL ‹_› ?_
 refine bl ?_
 refine aL ‹_› ?_
 refine aL ‹_› ?_
 refine iL (cW).k ?_
 refine Tw ?_
 refine aB ?_ ?_ <;> intro hb
 exact (by rw [AZ hx hz (by omega)];rfl)
 refine kf [(3,0),(3,1),(3,2),(3,3)] (B8 (mi:=m) (pi:=p) h m.toNat x p.toNat z (by omega) (by omega) rfl hsh UP hx hz (by omega)) ?_
 exact (by rw [A0 ‹_› hx hz (by omega)];rfl)
theorem OY (h:ap) (m:Nat) (x:aV) (p:Nat) (z:aQ) (need:Int) (hn:0 ≤ need∧need ≤ 3) (hs:oV h) (ha:ku h) (hx:h.ai[m]? = some x) (hz:x.ak[p]? = some z) (uo:XT z):eH Tryz.prog 288 (⟨true,aq h⟩) [.one (.ptr ⟨1000001,[],0⟩),I m,I p,I need] (zx (aq (cP h m p need)) (.mj [])):=by
 refine eH.w 65 Tryz.func288 fun w g0 _=> ?_
 have qh:Q (aj h):=hs.q
 have u5:Q (bt x):=⟨hs.sm hx⟩
 have jS:=hs.cK hx
 have WS:=jS.1
 have hml:=(aM.1 hx).1
 have oQ:=(aM.1 hz).1
 have nW:m < (h.ai.map bA).length:=by rw [aI];exact hml
 have AR:p < (x.ak.map aT).length:=by rw [aI];exact oQ
 have XW:z.aN= -1 ↔ z.aN= -1∧z.bf=0:=⟨fun e=>⟨e,uo.2.2 e⟩,fun e=>e.1⟩
 have TG:bE.aN= -1:=rfl
 have TH:bE.bf=0:=rfl
 have htn:=vQ hn
 have WV:=uo.1
 have WW:=uo.2.1
 refine di ?_
 refine aL ‹_› ?_
 refine aL ‹_› ?_
 refine di ?_
 refine aL ‹_› ?_
 refine aL ‹_› ?_
 refine aB ?_ ?_ <;> intro hb
 refine qD 1000001 (B7 (mi:=m) (pi:=p) h m x p z rfl rfl rfl hs ha hx hz (by omega)) ?_
 obtain ⟨x1,z1,mg,uk,Na,hks⟩:∃ x1 z1,(cB h m p).ai[m]? = some x1∧x1.ak[p]? = some z1∧(0 ≤ z1.bf∧z1.bf ≤ 3)∧oV (cB h m p):=(by obtain ⟨y,t,h2,h3,h4⟩:=yb hs ha hx hz (by omega);exact ⟨y,_,h2,h3,⟨by show (0:Int) ≤ 3;decide,by show (3:Int) ≤ 3;decide⟩,u0 hs ha hx hz (by omega)⟩)
 have hme:cP h m p need=if s5 need 2=0 then cB h m p else zB (cB h m p) m p:=(by unfold cP;rw [iv hx hz];simp only [if_pos (show z.aN= -1 by omega)])
 have qk:Q (aj (cB h m p)):=hks.q
 have hmk:=hks.cK mg
 have HO:=hmk.1
 have WX:=hmk.2.2.1
 have qx:Q (bt x1):=⟨hks.sm mg⟩
 have Nb:=(aM.1 mg).1
 have QR:m < ((cB h m p).ai.map bA).length:=by rw [aI];exact Nb
 have hkp:=(aM.1 uk).1
 have WY:p < (x1.ak.map aT).length:=by rw [aI];exact hkp
 obtain ⟨bd,hbd⟩:∃ b,x1.bI[p]? = some b:=⟨_,bg (by omega)⟩
 have PO:=(aM.1 hbd).1
 have WZ:p < (x1.bI.map bO).length:=by rw [aI];exact PO
 have htz:=vQ Na
 refine ah (fW need 2).k ?_
 refine aB ?_ ?_ <;> intro iz
 exact (by rw [hme,if_pos (by simp_all)];exact ⟨rfl,rfl⟩)
 refine di ?_
 refine aL ‹_› ?_
 refine aL ‹_› ?_
 refine di ?_
 refine aL ‹_› ?_
 refine aL ‹_› ?_
 refine cJ ?_
 refine cJ ?_
 refine di ?_
 refine cJ ?_
 refine aL ‹_› ?_
 refine ah (fW z1.bf 2).k ?_
 refine aB ?_ ?_ <;> intro tr
 refine cJ ?_
 refine cJ ?_
 refine di ?_
 refine cJ ?_
 refine aL ‹_› ?_
 refine qD 1000001 (jJ (row:=FD (cB h m p) m x1 p z1) (HQ (cB h m p) m x1 p z1) m (HP x1 p z1) p (HR (cB h m p) m x1 p z1) (dS mg) hmk.2.2.2 (OV hks mg)) ?_
 exact (by rw [hme,if_neg (by simp_all),KX mg uk (by simp_all)];exact ⟨rfl,rfl⟩)
 exact (by rw [hme,if_neg (by simp_all),tI mg uk (by simp_all), ← jh];exact ⟨rfl,rfl⟩)
 obtain ⟨x1,z1,mg,uk,Na,hks⟩:∃ x1 z1,h.ai[m]? = some x1∧x1.ak[p]? = some z1∧(0 ≤ z1.bf∧z1.bf ≤ 3)∧oV h:=⟨x,z,hx,hz,⟨WV,WW⟩,hs⟩
 have hme:cP h m p need=if s5 need 2=0 then h else zB h m p:=(by unfold cP;rw [iv hx hz];simp only [if_neg (show ¬ z.aN= -1 by omega)])
 have qk:Q (aj h):=hks.q
 have hmk:=hks.cK mg
 have HO:=hmk.1
 have WX:=hmk.2.2.1
 have qx:Q (bt x1):=⟨hks.sm mg⟩
 have Nb:=(aM.1 mg).1
 have QR:m < (h.ai.map bA).length:=by rw [aI];exact Nb
 have hkp:=(aM.1 uk).1
 have WY:p < (x1.ak.map aT).length:=by rw [aI];exact hkp
 obtain ⟨bd,hbd⟩:∃ b,x1.bI[p]? = some b:=⟨_,bg (by omega)⟩
 have PO:=(aM.1 hbd).1
 have WZ:p < (x1.bI.map bO).length:=by rw [aI];exact PO
 have htz:=vQ Na
 refine ah (fW need 2).k ?_
 refine aB ?_ ?_ <;> intro AJ
 exact (by rw [hme,if_pos (by simp_all)];exact ⟨rfl,rfl⟩)
 refine di ?_
 refine aL ‹_› ?_
 refine aL ‹_› ?_
 refine di ?_
 refine aL ‹_› ?_
 refine aL ‹_› ?_
 refine cJ ?_
 refine cJ ?_
 refine di ?_
 refine cJ ?_
 refine aL ‹_› ?_
 refine ah (fW z1.bf 2).k ?_
 refine aB ?_ ?_ <;> intro D0
 refine cJ ?_
 refine cJ ?_
 refine di ?_
 refine cJ ?_
 refine aL ‹_› ?_
 refine qD 1000001 (jJ (row:=FD h m x1 p z1) (HQ h m x1 p z1) m (HP x1 p z1) p (HR h m x1 p z1) (dS mg) hmk.2.2.2 (OV hks mg)) ?_
 exact (by rw [hme,if_neg (by simp_all),KX mg uk (by simp_all)];exact ⟨rfl,rfl⟩)
 exact (by rw [hme,if_neg (by simp_all),tI mg uk (by simp_all), ← jh];exact ⟨rfl,rfl⟩)
theorem HS (h:ap) (m:Nat) (x:aV) (p:Nat) (z:aQ) (need:Int) (hn:0 ≤ need∧need ≤ 3) (hs:oV h) (ha:ku h) (hx:h.ai[m]? = some x) (hz:x.ak[p]? = some z) (uo:XT z):ng Tryz.prog 353 (aq h) [.one (.agg [.ref ⟨1000000,[],0⟩, .ref ⟨1000000,[],1⟩, .ref ⟨1000000,[],2⟩, .ref ⟨1000000,[],3⟩]),I m,I p,I need] (RG [.a (aq (cP h m p need))]):=by
 refine ng.w 58 Tryz.func353 fun w g0 _=> ?_
 have qh:Q (aj h):=hs.q
 have u5:Q (bt x):=⟨hs.sm hx⟩
 have jS:=hs.cK hx
 have WS:=jS.1
 have hml:=(aM.1 hx).1
 have oQ:=(aM.1 hz).1
 have nW:m < (h.ai.map bA).length:=by rw [aI];exact hml
 have AR:p < (x.ak.map aT).length:=by rw [aI];exact oQ
 have XW:z.aN= -1 ↔ z.aN= -1∧z.bf=0:=⟨fun e=>⟨e,uo.2.2 e⟩,fun e=>e.1⟩
 have TG:bE.aN= -1:=rfl
 have TH:bE.bf=0:=rfl
 have htn:=vQ hn
 have WV:=uo.1
 have WW:=uo.2.1
 refine o_ ?_
 refine di ?_
 refine aL ‹_› ?_
 refine aL ‹_› ?_
 refine di ?_
 refine aL ‹_› ?_
 refine aL ‹_› ?_
 refine iL (cW).k ?_
 refine Tw ?_
 refine aB ?_ ?_ <;> intro hb
 refine kf [(1000000,0),(1000000,1),(1000000,2),(1000000,3)] (B8 (mi:=m) (pi:=p) h m x p z rfl rfl rfl hs ha hx hz (by omega)) ?_
 obtain ⟨x1,z1,mg,uk,Na,hks⟩:∃ x1 z1,(cB h m p).ai[m]? = some x1∧x1.ak[p]? = some z1∧(0 ≤ z1.bf∧z1.bf ≤ 3)∧oV (cB h m p):=(by obtain ⟨y,t,h2,h3,h4⟩:=yb hs ha hx hz (by omega);exact ⟨y,_,h2,h3,⟨by show (0:Int) ≤ 3;decide,by show (3:Int) ≤ 3;decide⟩,u0 hs ha hx hz (by omega)⟩)
 have hme:cP h m p need=if s5 need 2=0 then cB h m p else zB (cB h m p) m p:=(by unfold cP;rw [iv hx hz];simp only [if_pos (show z.aN= -1 by omega)])
 have qk:Q (aj (cB h m p)):=hks.q
 have hmk:=hks.cK mg
 have HO:=hmk.1
 have WX:=hmk.2.2.1
 have qx:Q (bt x1):=⟨hks.sm mg⟩
 have Nb:=(aM.1 mg).1
 have QR:m < ((cB h m p).ai.map bA).length:=by rw [aI];exact Nb
 have hkp:=(aM.1 uk).1
 have WY:p < (x1.ak.map aT).length:=by rw [aI];exact hkp
 obtain ⟨bd,hbd⟩:∃ b,x1.bI[p]? = some b:=⟨_,bg (by omega)⟩
 have PO:=(aM.1 hbd).1
 have WZ:p < (x1.bI.map bO).length:=by rw [aI];exact PO
 have htz:=vQ Na
 refine aB ?_ ?_ <;> intro iz
 exact (by rw [hme,if_pos (by simp_all)];rfl)
 refine di ?_
 refine aL ‹_› ?_
 refine aL ‹_› ?_
 refine di ?_
 refine aL ‹_› ?_
 refine aL ‹_› ?_
 refine di ?_
 refine cJ ?_
 refine cJ ?_
 refine di ?_
 refine cJ ?_
 refine aL ‹_› ?_
 refine aB ?_ ?_ <;> intro tr
 refine kf [(4,0),(4,1),(4,2),(4,3)] (kp (row:=vR (cB h m p) m x1 p) (tH (cB h m p) m x1 p) m (wI x1 p) p z1 ⟨z1.aN,3⟩ (jh (cB h m p) m x1 p) (dS mg) hmk.2.2.2 uk (pL hks mg).1) ?_
 exact (by rw [hme,if_neg (by simp_all),sS mg uk (by simp_all)];rfl)
 exact (by rw [hme,if_neg (by simp_all),tI mg uk (by simp_all), ← jh];rfl)
 obtain ⟨x1,z1,mg,uk,Na,hks⟩:∃ x1 z1,h.ai[m]? = some x1∧x1.ak[p]? = some z1∧(0 ≤ z1.bf∧z1.bf ≤ 3)∧oV h:=⟨x,z,hx,hz,⟨WV,WW⟩,hs⟩
 have hme:cP h m p need=if s5 need 2=0 then h else zB h m p:=(by unfold cP;rw [iv hx hz];simp only [if_neg (show ¬ z.aN= -1 by omega)])
 have qk:Q (aj h):=hks.q
 have hmk:=hks.cK mg
 have HO:=hmk.1
 have WX:=hmk.2.2.1
 have qx:Q (bt x1):=⟨hks.sm mg⟩
 have Nb:=(aM.1 mg).1
 have QR:m < (h.ai.map bA).length:=by rw [aI];exact Nb
 have hkp:=(aM.1 uk).1
 have WY:p < (x1.ak.map aT).length:=by rw [aI];exact hkp
 obtain ⟨bd,hbd⟩:∃ b,x1.bI[p]? = some b:=⟨_,bg (by omega)⟩
 have PO:=(aM.1 hbd).1
 have WZ:p < (x1.bI.map bO).length:=by rw [aI];exact PO
 have htz:=vQ Na
 refine aB ?_ ?_ <;> intro AJ
 exact (by rw [hme,if_pos (by simp_all)];rfl)
 refine di ?_
 refine aL ‹_› ?_
 refine aL ‹_› ?_
 refine di ?_
 refine aL ‹_› ?_
 refine aL ‹_› ?_
 refine di ?_
 refine cJ ?_
 refine cJ ?_
 refine di ?_
 refine cJ ?_
 refine aL ‹_› ?_
 refine aB ?_ ?_ <;> intro D0
 refine kf [(1000000,0),(1000000,1),(1000000,2),(1000000,3)] (kp (row:=vR h m x1 p) (tH h m x1 p) m (wI x1 p) p z1 ⟨z1.aN,3⟩ (jh h m x1 p) (dS mg) hmk.2.2.2 uk (pL hks mg).1) ?_
 exact (by rw [hme,if_neg (by simp_all),sS mg uk (by simp_all)];rfl)
 exact (by rw [hme,if_neg (by simp_all),tI mg uk (by simp_all), ← jh];rfl)
end
section
variable {g n:Int} {b:aS} {x:ax}
set_option maxRecDepth 100000
set_option maxHeartbeats 8000000
abbrev aG (b:aS) (g:Int):ax:=(m5 b.aa g).getD th
theorem at_mem {α:Type} {xs:List α} {i:Int} {r: α} (h:m5 xs i=some r):r ∈ xs:=by
 unfold m5 at h
 split at h
 exact aH h
 cases h
theorem D6 (hg:¬ (0 ≤ g∧g < b.aa.length)):m5 b.aa g=none:=q4 hg
theorem HT (h0:0 ≤ g) (hx:b.aa[g.toNat]? = some x):m5 b.aa g=some x:=qH h0 hx
theorem HU:aJ th:=⟨by simp [ju],by simp [eM],by simp [eM],by simp [dP]⟩
theorem HV (hb:a_ b):aJ (aG b g):=by
 unfold aG
 cases h1:m5 b.aa g with
 | none=>exact HU
 | some x=>
  unfold m5 at h1
  split at h1
  exact hb.2.1.2 x (aH h1)
  cases h1
instance (b:aS) (g:Int) [hb:Q (a_ b)]:Q (aJ (aG b g)):=⟨HV hb.h⟩
theorem W0 (hg:¬ (0 ≤ g∧g < b.aa.length)):b_ b g x=b:=by unfold b_;rw [BG hg]
theorem Sv (h0:0 ≤ g):b_ b g x={ b with aa:=b.aa.set g.toNat x }:=by unfold b_;rw [vA h0]
theorem Zh (hb:a_ b) (hx:aJ x):a_ (b_ b g x):=by
 refine ⟨hb.1,⟨?_,fun y hy=> ?_⟩,hb.2.2⟩
 show (put b.aa g x).length ≤ _
 rw [pV];exact hb.2.1.1
 have hy:y ∈ put b.aa g x:=hy
 unfold put at hy
 split at hy
 rcases lN hy with hy|rfl
 exact hb.2.1.2 y hy
 exact hx
 exact hb.2.1.2 y hy
theorem Zi (h:b.cm.length < 40):sy b n={ b with cm:=b.cm ++ [n] }:=by unfold sy;rw [if_pos h]
theorem W1 (h:¬ b.cm.length < 40):sy b n=b:=by unfold sy;rw [if_neg h]
theorem TY (hb:a_ b):a_ (sy b n):=by
 unfold sy
 split
 refine ⟨hb.1,hb.2.1, ?_⟩
 show (b.cm ++ [n]).length ≤ _
 rw [o4,List.length_singleton];omega
 exact hb
instance (b:aS) (n:Int) [hb:Q (a_ b)]:Q (a_ (sy b n)):=⟨TY hb.h⟩
def PA (b:aS) (g:Int):Bool:=dg b && decide (0 ≤ g∧g < b.aa.length)
theorem sU (b:aS) (g:Int) [Q (a_ b)]:aF Tryz.prog 387 [A (bH b),I g] (RG [.a (bK (aG b g)), .c (.v (.bool (m5 b.aa g).isSome))]):=by
 refine aF.w 19 Tryz.func387 fun w g0 hM=> ?_
 have eW:=hM.1.2.1.map
 refine len ?_
 refine ah (bM _ _).k ?_
 refine aB ?_ ?_ <;> intro hb
 ·exact (by rw [aG,D6 (by omega)];rfl)
 ·refine xw (fun y16 Qs Qt Qu=> ?_)
  skip
  refine an (e8 _).k ?_
  exact (by rw [aG,HT (by omega) ‹_›];rfl)
theorem yd (b:aS) (g:Int) [Q (a_ b)]:pI Tryz.prog 387 [A (bH b),I g] (.mj [.agg ((bK (aG b g)).map C.ro), .c (.ro (.v (.bool (m5 b.aa g).isSome)))]):=by
 refine pI.w 19 Tryz.func387 fun w g0 hM=> ?_
 have eW:=hM.1.2.1.map
 refine len ?_
 refine ah (bM _ _).k ?_
 refine aB ?_ ?_ <;> intro hb
 ·exact (by (repeat refine fi.mk WD.w ?_);(rw [aG,D6 (by omega)];rfl))
 ·refine xw (fun y16 Qs Qt Qu=> ?_)
  skip
  refine an (e8 _).k ?_
  exact (by (repeat refine fi.mk WD.w ?_);(rw [aG,HT (by omega) ‹_›];rfl))
theorem cN (b:aS) (g:Int) (x:ax) [Q (a_ b)] [Q (aJ x)]:aF Tryz.prog 389 [A (bH b),I g,A (bK x)] (RG [.a (bH (b_ b g x))]):=by
 refine aF.w 22 Tryz.func389 fun w g0 hM=> ?_
 have eW:=hM.1.2.1.map
 refine an (cZ b).k ?_
 refine len ?_
 refine ah (bM _ _).k ?_
 refine aB ?_ ?_ <;> intro hb
 refine cI [6] [(0,0),(1,0),(2,0),(3,0),(4,1),(5,0),(6,1)] ?_
 refine an (e8 x).k ?_
 refine bl ?_
 refine sn (fun z1 XP XQ XR=> ?_)
 exact (by rw [Sv (by omega)];simp only [bH,bL];rfl)
 exact (by rw [W0 (by omega)];rfl)
theorem Jz (b:aS) (n:Int) [Q (a_ b)]:aF Tryz.prog 395 [A (bH b),I n] (RG [.a (bH (sy b n))]):=by
 refine aF.w 19 Tryz.func395 fun w g0 _=> ?_
 refine an (cZ b).k ?_
 refine len ?_
 refine aB ?_ ?_ <;> intro hb
 refine cD ?_
 exact (by rw [Zi (by omega)];simp only [bH,iW];rfl)
 exact (by rw [W1 (by omega)];rfl)
theorem mR (b:aS) (g:Int) [Q (a_ b)]:aF Tryz.prog 447 [A (bH b),I g] (RV (.bool (PA b g))):=by
 refine aF.w 15 Tryz.func447 fun w g0 hM=> ?_
 have eW:=hM.1.2.1.map
 refine ah (p9 _).k ?_
 refine aB ?_ ?_ <;> intro oe
 refine len ?_
 refine cg ?_
 refine ah (aE _ _ _).k ?_
 exact ay (by refine congrArg Value.bool ?_;rw [dX];simp [PA, *];omega)
 exact ay (by simp [PA, *];done)
theorem Ae (b:aS) (g:Int) [Q (a_ b)]:aF Tryz.prog 402 [A (bH b),I g] (RP (A (uM (aG b g).Exit))):=by
 refine aF.w 15 Tryz.func402 fun w g0 _=> ?_
 refine an (sU b g).k ?_
 exact rfl
end
end Go.Proofs.YtdliggkohdnipaaGreat.T
