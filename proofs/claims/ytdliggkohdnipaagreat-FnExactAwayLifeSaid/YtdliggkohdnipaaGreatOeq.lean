import Derived.Test.YtdliggkohdnipaaGreatOcq
set_option linter.unusedVariables false
set_option linter.unusedSimpArgs false
namespace Go.Proofs.YtdliggkohdnipaaGreat.T
open Go
section
variable {mi pi:Int} {row:List D} {m p:Nat} {h:ap} {x:aV} {z:aQ}
set_option maxRecDepth 100000
set_option maxHeartbeats 8000000
def QF (x:aV) (p:Nat):aV:={ x with bI:=x.bI.set p false }
def kq (h:ap) (m:Nat) (x:aV) (p:Nat):ap:={ h with ai:=h.ai.set m (QF x p) }
def sM (x:aV) (p:Nat) (z:aQ):aV:={ x with ak:=x.ak.set p ⟨z.aN,1⟩ }
def vH (h:ap) (m:Nat) (x:aV) (p:Nat) (z:aQ):ap:={ h with ai:=h.ai.set m (sM x p z) }
theorem Sm (x:aV) (p:Nat):bA (QF x p)= .st [.sl 2 (x.ak.map aT), .sl 1 (x.Out.map aP), .sl 1 ((x.bI.map bO).set p (.v (.bool false))), .sl 15 (x.aa.map bp), .sl 1 (x.cm.map bS), .v (.int .i64 x.av), .v (.int .i64 x.bn), .sl 2 (x.Tables.map cz), .v (.int .i64 x.Own)]:=by
 show D.st [_,_, .sl 1 ((x.bI.set p false).map bO),_,_,_,_,_,_]=_
 rw [bL]
 rfl
theorem rd_dm (x:aV) (p:Nat) (z:aQ):bA (sM x p z)= .st [.sl 2 ((x.ak.map aT).set p (.st [.v (.int .i64 z.aN), .v (.int .i64 1)])), .sl 1 (x.Out.map aP), .sl 1 (x.bI.map bO), .sl 15 (x.aa.map bp), .sl 1 (x.cm.map bS), .v (.int .i64 x.av), .v (.int .i64 x.bn), .sl 2 (x.Tables.map cz), .v (.int .i64 x.Own)]:=by
 show D.st [.sl 2 ((x.ak.set p ⟨z.aN,1⟩).map aT),_,_,_,_,_,_,_,_]=_
 rw [bL]
 rfl
abbrev Mi (h:ap) (m:Nat) (x:aV) (p:Nat):List D:=[.sl 1 (h.au.map aP), .sl 9 ((h.ai.map bA).set m (.st [.sl 2 (x.ak.map aT), .sl 1 (x.Out.map aP), .sl 1 ((x.bI.map bO).set p (.v (.bool false))), .sl 15 (x.aa.map bp), .sl 1 (x.cm.map bS), .v (.int .i64 x.av), .v (.int .i64 x.bn), .sl 2 (x.Tables.map cz), .v (.int .i64 x.Own)])), .sl 4 (h.Buffer.map aC), .sl 4 (h.aD.map aC)]
theorem AS (h:ap) (m:Nat) (x:aV) (p:Nat):Mi h m x p=aq (kq h m x p):=by
 unfold Mi kq
 rw [← Sm, ← bL]
abbrev Wx (h:ap) (m:Nat) (x:aV) (p:Nat) (z:aQ):List D:=[.sl 1 (h.au.map aP), .sl 9 ((h.ai.map bA).set m (.st [.sl 2 ((x.ak.map aT).set p (.st [.v (.int .i64 z.aN), .v (.int .i64 1)])), .sl 1 (x.Out.map aP), .sl 1 (x.bI.map bO), .sl 15 (x.aa.map bp), .sl 1 (x.cm.map bS), .v (.int .i64 x.av), .v (.int .i64 x.bn), .sl 2 (x.Tables.map cz), .v (.int .i64 x.Own)])), .sl 4 (h.Buffer.map aC), .sl 4 (h.aD.map aC)]
theorem Wy (h:ap) (m:Nat) (x:aV) (p:Nat) (z:aQ):Wx h m x p z=aq (vH h m x p z):=by
 unfold Wx vH
 rw [← rd_dm, ← bL]
theorem Fz (hx:bt x):bt (QF x p):=⟨hx.1,hx.2.1,by show (x.bI.set _ _).length ≤ _;rw [bD];exact hx.2.2.1,hx.2.2.2⟩
theorem sm_rd (hx:bt x):bt (sM x p z):=⟨by show (x.ak.set _ _).length ≤ _;rw [bD];exact hx.1,hx.2⟩
theorem nI {y:aV} (hh:aj h) (hy:bt y):aj { h with ai:=h.ai.set m y }:=by
 refine ⟨hh.1,⟨by show (h.ai.set _ _).length ≤ _;rw [bD];exact hh.2.1.1,fun w hw=> ?_⟩,hh.2.2⟩
 rcases lN hw with hw|rfl
 exact hh.2.1.2 w hw
 exact hy
def guarded (h:ap) (m:Nat) (x:aV) (p:Nat) (z:aQ):ap:=jk (kq h m x p) m (QF x p) p z ⟨z.aN,1⟩
theorem D4 (hx:h.ai[m]? = some x):lT h m p false=kq h m x p:=by
 unfold lT fT
 rw [lZ hx]
 rfl
theorem Hq (hx:h.ai[m]? = some x) (hz:x.ak[p]? = some z) (h1:z.aN= -1):xB h m p=kq h m x p:=by
 unfold xB
 rw [iv hx hz,if_pos h1,D4 hx]
theorem Hr (hx:h.ai[m]? = some x) (hz:x.ak[p]? = some z) (h1:¬ z.aN= -1):xB h m p=guarded h m x p z:=by
 unfold xB
 rw [iv hx hz,if_neg h1,D4 hx]
 have h2:(kq h m x p).ai[m]? = some (QF x p):=dS hx
 exact sK h2 hz
theorem Hs {m p:Int} (hp:ee h m p=false):guard h m p=none:=by unfold guard;rw [hp];rfl
theorem n6 {m p:Int} (hp:ee h m p=true):guard h m p=some (xB h m.toNat p.toNat):=by unfold guard;rw [hp];rfl
def mS (x:aV) (p:Nat) (z:aQ):aV:={ sM x p z with Tables:=fm (sM x p z) p }
theorem OD:aq (guarded h m x p z)=[.sl 1 ((spoilt (vH h m x p z) m (sM x p z) p z).au.map aP), .sl 9 (((spoilt (vH h m x p z) m (sM x p z) p z).ai.map bA).set m (.st [.sl 2 ((mS x p z).ak.map aT), .sl 1 ((mS x p z).Out.map aP), .sl 1 (((mS x p z).bI.map bO).set p (.v (.bool false))), .sl 15 ((mS x p z).aa.map bp), .sl 1 ((mS x p z).cm.map bS), .v (.int .i64 (mS x p z).av), .v (.int .i64 (mS x p z).bn), .sl 2 ((mS x p z).Tables.map cz), .v (.int .i64 (mS x p z).Own)])), .sl 4 ((spoilt (vH h m x p z) m (sM x p z) p z).Buffer.map aC), .sl 4 ((spoilt (vH h m x p z) m (sM x p z) p z).aD.map aC)]:=by
 have e:bA (QF (mS x p z) p)= .st [.sl 2 ((mS x p z).ak.map aT), .sl 1 ((mS x p z).Out.map aP), .sl 1 (((mS x p z).bI.map bO).set p (.v (.bool false))), .sl 15 ((mS x p z).aa.map bp), .sl 1 ((mS x p z).cm.map bS), .v (.int .i64 (mS x p z).av), .v (.int .i64 (mS x p z).bn), .sl 2 ((mS x p z).Tables.map cz), .v (.int .i64 (mS x p z).Own)]:=Sm _ _
 rw [← e, ← bL]
 unfold spoilt guarded jk kq vH
 simp only [cS]
 rfl
theorem AT {s:aQ} (h:ap) (m:Nat) (x:aV) (p:Nat) (CA:mi=m) (Hh:pi=p) (hr:row=aq h) (hx:h.ai[m]? = some x) (p_:x.Tables.length=x.aa.length) (q:aj h):
  wg Tryz.prog 189 row 1 [.one (.ptr ⟨1000001,[],0⟩),I mi,I pi,A (iF s)] (zx (aq (spoilt h m x p s)) (.mj [])):=by
 subst CA Hh hr
 have:Q (aj h):=⟨q⟩
 exact tu h m x p s hx p_
theorem Ew (h:ap) (m:Nat) (x:aV) (p:Nat) (z s:aQ) (CA:mi=m) (Hh:pi=p) (hr:row=aq h) (hx:h.ai[m]? = some x) (p_:x.Tables.length=x.aa.length) (hz:x.ak[p]? = some z) (q:aj h):
  ng Tryz.prog 331 row [.one (.agg [.ref ⟨1000000,[],0⟩, .ref ⟨1000000,[],1⟩, .ref ⟨1000000,[],2⟩, .ref ⟨1000000,[],3⟩]),I mi,I pi,A (iF s)] (RG [.a (aq (jk h m x p z s))]):=by
 subst CA Hh
 exact kp h m x p z s hr hx p_ hz q
theorem Mj (h:ap) (m:Int) (p:Int) [Q (aj h)]:aF Tryz.prog 99 [A (aq h),I m,I p] (RG [.a (aq ((guard h m p).getD h)), .c (.v (.bool (guard h m p).isSome))]):=by
 refine aF.w 51 Tryz.func99 fun w g0 hM=> ?_
 have eW:=hM.1.2.1.map
 refine an (aY h).k ?_
 refine ah (sI h m p).k ?_
 refine aB ?_ ?_ <;> intro hb
 exact (by rw [Hs ‹_›];rfl)
 have hn1:bE.aN= -1:=rfl
 have hn2:bE.bf=0:=rfl
 have BV:=fD.1 (by assumption:ee h m p=true)
 obtain ⟨x,hx⟩:∃ x,h.ai[m.toNat]? = some x:=⟨_,bg (by omega)⟩
 have hmo:=dZ (eE BV.1 hx)
 obtain ⟨z,hz⟩:∃ z,x.ak[p.toNat]? = some z:=⟨_,bg (by omega)⟩
 obtain ⟨b,hbd⟩:∃ b,x.bI[p.toNat]? = some b:=⟨_,bg (by omega)⟩
 have hml:=(aM.1 hx).1
 have oQ:=(aM.1 hz).1
 have nW:m.toNat < (h.ai.map bA).length:=by rw [aI];exact hml
 have AR:p.toNat < (x.ak.map aT).length:=by rw [aI];exact oQ
 have qx:Q (bt x):=⟨jW.h x (aH hx)⟩
 have hzo:z.aN= -1→z.bf=0:=fun e=>by rcases hmo.2.2.2.2.2 z (aH hz) with rfl|h;(· exact rfl);(· omega)
 refine bl ?_
 refine aL ‹_› ?_
 refine aL ‹_› ?_
 refine bl ?_
 refine aL ‹_› ?_
 refine aL ‹_› ?_
 refine aB ?_ ?_ <;> intro iz
 refine aL ‹_› ?_
 refine aL ‹_› ?_
 refine bl ?_
 refine aL ‹_› ?_
 refine aL ‹_› ?_
 have hsp:(spoilt (vH h m.toNat x p.toNat z) m.toNat (sM x p.toNat z) p.toNat z).ai[m.toNat]? = some (mS x p.toNat z):=dS (dS hx)
 have hdl8:(mS x p.toNat z).bI.length=8:=hmo.2.2.2.2.1
 have hbd2:(mS x p.toNat z).bI[p.toNat]? = some b:=hbd
 have PC:=(aM.1 hsp).1
 have PO:=(aM.1 hbd).1
 refine callK 8 1 9 m.toNat 0 (AT (mi:=m) (pi:=p) (row:=Wx h m.toNat x p.toNat z) (vH h m.toNat x p.toNat z) m.toNat (sM x p.toNat z) p.toNat (by omega) (by omega) (Wy h m.toNat x p.toNat z) (dS hx) hmo.2.2.1 (nI (by assumption:Q (aj h)).h (sm_rd qx.h))) rfl rfl (by simp only [bD,aI];omega) (by rw [aI];exact PC) ?_
 refine aL ‹_› ?_
 refine aL ‹_› ?_
 refine bl ?_
 refine aL ‹_› ?_
 refine aL ‹_› ?_
 exact (by rw [n6 ‹_›,Hr hx hz (by omega),show ((some (guarded h m.toNat x p.toNat z)).getD h)=guarded h m.toNat x p.toNat z from rfl,OD];rfl)
 refine aL ‹_› ?_
 refine aL ‹_› ?_
 refine bl ?_
 refine aL ‹_› ?_
 refine aL ‹_› ?_
 exact (by rw [n6 ‹_›,Hq hx hz (by omega),show ((some (kq h m.toNat x p.toNat)).getD h)=kq h m.toNat x p.toNat from rfl, ← AS];rfl)
theorem Mk (h:ap) (m:Int) (p:Int) [Q (aj h)]:aF Tryz.prog 215 [A (aq h),I m,I p] (RG [.a (aq ((guard h m p).getD h)), .c (.v (.bool (guard h m p).isSome))]):=by
 refine aF.w 45 Tryz.func215 fun w g0 hM=> ?_
 have eW:=hM.1.2.1.map
 refine an (cF h).k ?_
 refine ah (rI h m p).k ?_
 refine aB ?_ ?_ <;> intro hb
 exact (by rw [Hs ‹_›];rfl)
 have hn1:bE.aN= -1:=rfl
 have hn2:bE.bf=0:=rfl
 have BV:=fD.1 (by assumption:ee h m p=true)
 obtain ⟨x,hx⟩:∃ x,h.ai[m.toNat]? = some x:=⟨_,bg (by omega)⟩
 have hmo:=dZ (eE BV.1 hx)
 obtain ⟨z,hz⟩:∃ z,x.ak[p.toNat]? = some z:=⟨_,bg (by omega)⟩
 obtain ⟨b,hbd⟩:∃ b,x.bI[p.toNat]? = some b:=⟨_,bg (by omega)⟩
 have hml:=(aM.1 hx).1
 have oQ:=(aM.1 hz).1
 have nW:m.toNat < (h.ai.map bA).length:=by rw [aI];exact hml
 have AR:p.toNat < (x.ak.map aT).length:=by rw [aI];exact oQ
 have qx:Q (bt x):=⟨jW.h x (aH hx)⟩
 have hzo:z.aN= -1→z.bf=0:=fun e=>by rcases hmo.2.2.2.2.2 z (aH hz) with rfl|h;(· exact rfl);(· omega)
 refine bl ?_
 refine aL ‹_› ?_
 refine aL ‹_› ?_
 refine bl ?_
 refine aL ‹_› ?_
 refine aL ‹_› ?_
 refine bl ?_
 refine cJ ?_
 refine cJ ?_
 refine bl ?_
 refine cJ ?_
 refine aL ‹_› ?_
 refine o_ ?_
 refine iL (cW).k ?_
 refine Tw ?_
 refine aB ?_ ?_ <;> intro iz
 exact (by rw [n6 ‹_›,Hq hx hz (by omega),show ((some (kq h m.toNat x p.toNat)).getD h)=kq h m.toNat x p.toNat from rfl, ← AS];rfl)
 refine kf [(3,0),(3,1),(3,2),(3,3)] (Ew (mi:=m) (pi:=p) (row:=Mi h m.toNat x p.toNat) (kq h m.toNat x p.toNat) m.toNat (QF x p.toNat) p.toNat z ⟨z.aN,1⟩ (by omega) (by omega) (AS h m.toNat x p.toNat) (dS hx) hmo.2.2.1 hz (nI (by assumption:Q (aj h)).h (Fz qx.h))) ?_
 exact (by rw [n6 ‹_›,Hr hx hz (by omega)];rfl)
end
end Go.Proofs.YtdliggkohdnipaaGreat.T
