import Derived.Test.YtdliggkohdnipaaGreatPlr
import Derived.Test.YtdliggkohdnipaaGreatNsr
import Derived.Test.YtdliggkohdnipaaGreatRpr
set_option linter.unusedVariables false
set_option linter.unusedSimpArgs false
namespace Go.Proofs.YtdliggkohdnipaaGreat.T
open Go
section
variable {mi pi:Int} {row:List D} {m p:Nat} {h:an} {x:aO} {z:aL}
set_option maxRecDepth 100000
set_option maxHeartbeats 8000000
theorem AO (h:an) (m:Nat) (x:aO) (p:Nat) (z:aL) (Bj:mi=m) (Fy:pi=p) (hr:row=aq h) (hs:nD h) (ha:jE h) (hx:h.ap[m]? = some x) (hz:x.ai[p]? = some z) (h1:z.aJ= -1):
  eA Tryz.prog 295 ⟨true,row⟩ [.one (.ptr ⟨1000001,[],0⟩),I mi,I pi] (zF (aq (cw h m p)) (.lp [])):=by
 subst hr Bj Fy
 exact K4 h m x p z hs ha hx hz h1
theorem AP (h:an) (m:Nat) (x:aO) (p:Nat) (z:aL) (Bj:mi=m) (Fy:pi=p) (hr:row=aq h) (hs:nD h) (ha:jE h) (hx:h.ap[m]? = some x) (hz:x.ai[p]? = some z) (h1:z.aJ= -1):
  lO Tryz.prog 432 row [.one (.agg [.ref ⟨1000000,[],0⟩, .ref ⟨1000000,[],1⟩, .ref ⟨1000000,[],2⟩, .ref ⟨1000000,[],3⟩]),I mi,I pi] (RG [.a (aq (cw h m p))]):=by
 subst hr Bj Fy
 exact K5 h m x p z hs ha hx hz h1
theorem BY {m p:Int} (hp:dG h m p=false):mD h m p=none:=by unfold mD;rw [hp];rfl
theorem zk {m p:Int} (hx:h.ap[m.toNat]? = some x) (hz:x.ai[p.toNat]? = some z) (h1:¬ z.aJ= -1):mD h m p=none:=by
 unfold mD
 rw [gL hx hz,decide_eq_false h1,Bool.and_false]
 rfl
theorem zl {m p:Int} (hp:dG h m p=true) (hx:h.ap[m.toNat]? = some x) (hz:x.ai[p.toNat]? = some z) (h1:z.aJ= -1):mD h m p=some (cw h m.toNat p.toNat):=by
 unfold mD
 rw [gL hx hz,decide_eq_true h1,hp]
 rfl
theorem wg (hs:nD h) (ha:jE h) (hx:h.ap[m]? = some x) (hz:x.ai[p]? = some z) (h1:z.aJ= -1):∃ y t,(cw h m p).ap[m]? = some y∧y.ai[p]? = some ⟨t,3⟩∧0 ≤ t:=by
 obtain ⟨x1,t,l,hr,CN⟩:=xl hs ha hx hz h1
 have h8:=(hr.hs.cE hr.hx).2.1
 have hp:p < 8:=by have:=(List.getElem?_eq_some_iff.1 hr.hz).1;have:=(hr.hs.cE hr.hx).1;omega
 obtain ⟨y,hy⟩:∃ y,x1.Out[p]? = some y:=⟨_,List.getElem?_eq_getElem (by omega)⟩
 unfold cw
 rw [rT hr hy]
 exact ⟨_,t,dz (dz hr.hx),dz hr.hz,hr.ht.1⟩
theorem uq {r:Int} (h:0 ≤ r∧r ≤ 3):fi r 2=true ↔ ¬ ry r 2=0:=by
 have:r=0 ∨ r=1 ∨ r=2 ∨ r=3:=by omega
 rcases this with rfl|rfl|rfl|rfl <;> decide
def uU (x:aO) (p:Nat):aO:={ x with a_:=x.a_.set p true }
def rU (h:an) (m:Nat) (x:aO) (p:Nat):an:={ h with ap:=h.ap.set m (uU x p) }
def F6 (x:aO) (p:Nat) (z:aL):aO:={ x with ai:=x.ai.set p ⟨z.aJ,3⟩,a_:=x.a_.set p true }
def F7 (h:an) (m:Nat) (x:aO) (p:Nat) (z:aL):an:={ h with ap:=h.ap.set m (F6 x p z) }
abbrev ur (h:an) (m:Nat) (x:aO) (p:Nat):List D:=[.sl 1 (h.au.map aN), .sl 9 ((h.ap.map bh).set m (.st [.sl 2 (x.ai.map aQ), .sl 1 (x.Out.map aN), .sl 1 ((x.a_.map bz).set p (.v (.bool true))), .sl 15 (x.aa.map aY), .sl 1 (x.bX.map bH), .v (.int .i64 x.ax), .v (.int .i64 x.bq), .sl 2 (x.Tables.map bS), .v (.int .i64 x.Own)])), .sl 4 (h.Buffer.map aA), .sl 4 (h.aC.map aA)]
abbrev D4 (h:an) (m:Nat) (x:aO) (p:Nat) (z:aL):List D:=[.sl 1 (h.au.map aN), .sl 9 (((h.ap.map bh).set m (.st [.sl 2 (x.ai.map aQ), .sl 1 (x.Out.map aN), .sl 1 ((x.a_.map bz).set p (.v (.bool true))), .sl 15 (x.aa.map aY), .sl 1 (x.bX.map bH), .v (.int .i64 x.ax), .v (.int .i64 x.bq), .sl 2 (x.Tables.map bS), .v (.int .i64 x.Own)])).set m (.st [.sl 2 ((x.ai.map aQ).set p (.st [.v (.int .i64 z.aJ), .v (.int .i64 3)])), .sl 1 (x.Out.map aN), .sl 1 ((x.a_.map bz).set p (.v (.bool true))), .sl 15 (x.aa.map aY), .sl 1 (x.bX.map bH), .v (.int .i64 x.ax), .v (.int .i64 x.bq), .sl 2 (x.Tables.map bS), .v (.int .i64 x.Own)])), .sl 4 (h.Buffer.map aA), .sl 4 (h.aC.map aA)]
theorem iB (h:an) (m:Nat) (x:aO) (p:Nat):ur h m x p=aq (rU h m x p):=by
 have e:bh (uU x p)= .st [.sl 2 (x.ai.map aQ), .sl 1 (x.Out.map aN), .sl 1 ((x.a_.map bz).set p (.v (.bool true))), .sl 15 (x.aa.map aY), .sl 1 (x.bX.map bH), .v (.int .i64 x.ax), .v (.int .i64 x.bq), .sl 2 (x.Tables.map bS), .v (.int .i64 x.Own)]:=by
  show D.st [_,_, .sl 1 ((x.a_.set p true).map bz),_,_,_,_,_,_]=_
  rw [List.map_set]
  rfl
 unfold ur rU
 show _=[_,D.sl 9 ((h.ap.set m (uU x p)).map bh),_,_]
 rw [List.map_set,e]
theorem F8 (h:an) (m:Nat) (x:aO) (p:Nat) (z:aL):D4 h m x p z=aq (F7 h m x p z):=by
 have e:bh (F6 x p z)= .st [.sl 2 ((x.ai.map aQ).set p (.st [.v (.int .i64 z.aJ), .v (.int .i64 3)])), .sl 1 (x.Out.map aN), .sl 1 ((x.a_.map bz).set p (.v (.bool true))), .sl 15 (x.aa.map aY), .sl 1 (x.bX.map bH), .v (.int .i64 x.ax), .v (.int .i64 x.bq), .sl 2 (x.Tables.map bS), .v (.int .i64 x.Own)]:=by
  show D.st [.sl 2 ((x.ai.set p ⟨z.aJ,3⟩).map aQ),_, .sl 1 ((x.a_.set p true).map bz),_,_,_,_,_,_]=_
  rw [List.map_set,List.map_set]
  rfl
 unfold D4 F7
 rw [List.set_set]
 show _=[_,D.sl 9 ((h.ap.set m (F6 x p z)).map bh),_,_]
 rw [List.map_set,e]
theorem Nl (hx:bf x):bf (uU x p):=⟨hx.1,hx.2.1,by show (x.a_.set _ _).length ≤ _;rw [List.length_set];exact hx.2.2.1,hx.2.2.2⟩
theorem Jj (hx:Xm x):Xm (uU x p):=⟨hx.1,hx.2.1,by show (x.a_.set _ _).length=_;rw [List.length_set];exact hx.2.2.1,hx.2.2.2⟩
theorem U3 (hx:bf x):bf (F6 x p z):=⟨by show (x.ai.set _ _).length ≤ _;rw [List.length_set];exact hx.1,hx.2.1,by show (x.a_.set _ _).length ≤ _;rw [List.length_set];exact hx.2.2.1,hx.2.2.2⟩
theorem nZ (hh:nD h) (hx:h.ap[m]? = some x):nD (rU h m x p):=D1 hh (Nl (hh.sm hx)) (Jj (hh.cE hx))
theorem Nn (hh:nD h) (hx:h.ap[m]? = some x):aj (F7 h m x p z):=mj hh.1 (U3 (hh.sm hx))
theorem wh (hx:h.ap[m]? = some x):lR h m p true=rU h m x p:=by
 unfold lR fD
 rw [kM hx]
 rfl
theorem rV (hx:h.ap[m]? = some x) (hz:x.ai[p]? = some z) (h1:¬ ry z.aT 2=0):Ai h m p=rU h m x p:=by
 unfold Ai
 rw [gL hx hz,if_neg h1,wh hx]
theorem q9 (hx:h.ap[m]? = some x) (hz:x.ai[p]? = some z) (h1:ry z.aT 2=0):Ai h m p=iC (rU h m x p) m (uU x p) p z ⟨z.aJ,3⟩:=by
 unfold Ai
 rw [gL hx hz,if_pos h1,wh hx,qY (h:=rU h m x p) (dz hx) (show (uU x p).ai[p]? = some z from hz)]
 rfl
theorem Jk (hx:h.ap[m]? = some x) (hz:x.ai[p]? = some z) (h1:ry z.aT 2=0):Ai h m p=spoilt (F7 h m x p z) m (F6 x p z) p z:=by
 rw [q9 hx hz h1]
 unfold iC rU spoilt F7
 simp only [List.set_set]
 rfl
theorem No (hh:nD h) (hx:h.ap[m]? = some x) (hz:x.ai[p]? = some z):nD (Ai h m p):=by
 by_cases h1:ry z.aT 2=0
 rw [q9 hx hz h1]
 exact FT (nZ hh hx) (Nl (hh.sm hx)) (Jj (hh.cE hx))
 rw [rV hx hz h1]
 exact nZ hh hx
def Wd (z:aL):Prop:=0 ≤ z.aT∧z.aT ≤ 3∧(z.aJ= -1→z.aT=0)
theorem Np {need:Int} (hs:nD h) (ha:jE h) (hx:h.ap[m]? = some x) (hz:x.ai[p]? = some z):nD (cL h m p need):=by
 unfold cL
 rw [gL hx hz]
 by_cases h1:z.aJ= -1
 have h2:=tg hs ha hx hz h1
 obtain ⟨y,t,h3,h4,_⟩:=wg hs ha hx hz h1
 simp only [if_pos h1]
 split
 exact h2
 exact No h2 h3 h4
 simp only [if_neg h1]
 split
 exact hs
 exact No hs hx hz
theorem HV (h:an) (m:Int) (p:Int) [Q (aj h)]:aF Tryz.prog 174 [A (aq h),I m,I p] (RG [.a (aq ((mD h m p).getD h)), .c (.v (.bool (mD h m p).isSome))]):=by
 refine aF.w 34 Tryz.func174 fun w g0 hM=> ?_
 have eK:=hM.1.2.1.map
 refine ak (aP h).k ?_
 refine ah (qW h m p).k ?_
 refine aB ?_ ?_ <;> intro OT
 ·exact (by rw [BY (by assumption)];rfl)
 ·have Ax:=eS.1 (by assumption:dG h m p=true)
  obtain ⟨x,hx⟩:∃ x,h.ap[m.toNat]? = some x:=⟨_,List.getElem?_eq_getElem (by omega)⟩
  have hmo:=dB (dU Ax.1 hx)
  obtain ⟨z,hz⟩:∃ z,x.ai[p.toNat]? = some z:=⟨_,List.getElem?_eq_getElem (by omega)⟩
  have hsh:=KW Ax.1 (by assumption:Q (aj h)).h
  have SX:=AI Ax.1
  refine fN hx ?_
  skip
  skip
  refine fN hz ?_
  skip
  skip
  refine aB ?_ ?_ <;> intro hb
  ·exact (by rw [zk hx hz (by omega)];rfl)
  ·refine oI 8 (AO (mi:=m) (pi:=p) h m.toNat x p.toNat z (by omega) (by omega) rfl hsh SX hx hz (by omega)) ?_
   exact (by rw [zl (by assumption) hx hz (by omega)];rfl)
theorem HW (h:an) (m:Int) (p:Int) [Q (aj h)]:aF Tryz.prog 333 [A (aq h),I m,I p] (RG [.a (aq ((mD h m p).getD h)), .c (.v (.bool (mD h m p).isSome))]):=by
 refine aF.w 33 Tryz.func333 fun w g0 hM=> ?_
 have eK:=hM.1.2.1.map
 refine ak (ct h).k ?_
 refine pM ?_
 refine iQ (pT h m p).k ?_
 refine aB ?_ ?_ <;> intro OT
 exact (by rw [BY (by assumption)];rfl)
 have Ax:=eS.1 (by assumption:dG h m p=true)
 obtain ⟨x,hx⟩:∃ x,h.ap[m.toNat]? = some x:=⟨_,List.getElem?_eq_getElem (by omega)⟩
 have hmo:=dB (dU Ax.1 hx)
 obtain ⟨z,hz⟩:∃ z,x.ai[p.toNat]? = some z:=⟨_,List.getElem?_eq_getElem (by omega)⟩
 have hsh:=KW Ax.1 (by assumption:Q (aj h)).h
 have SX:=AI Ax.1
 have X9:=QJ Ax.1 hx hz
 have RU:bu.aJ= -1:=rfl
 have RW:bu.aT=0:=rfl
 refine aZ ?_
 refine aI (by assumption) ?_
 refine aI (by assumption) ?_
 refine aZ ?_
 refine aI (by assumption) ?_
 refine aI (by assumption) ?_
 refine iQ (cW).k ?_
 refine RQ ?_
 refine aB ?_ ?_ <;> intro hb
 exact (by rw [zk hx hz (by omega)];rfl)
 refine jr [(3,0),(3,1),(3,2),(3,3)] (AP (mi:=m) (pi:=p) h m.toNat x p.toNat z (by omega) (by omega) rfl hsh SX hx hz (by omega)) ?_
 exact (by rw [zl (by assumption) hx hz (by omega)];rfl)
theorem Nq (h:an) (m:Nat) (x:aO) (p:Nat) (z:aL) (need:Int) (hn:0 ≤ need∧need ≤ 3) (hs:nD h) (ha:jE h) (hx:h.ap[m]? = some x) (hz:x.ai[p]? = some z) (sH:Wd z):eA Tryz.prog 288 (⟨true,aq h⟩) [.one (.ptr ⟨1000001,[],0⟩),I m,I p,I need] (zF (aq (cL h m p need)) (.lp [])):=by
 refine eA.w 65 Tryz.func288 fun w g0 _=> ?_
 have qh:Q (aj h):=hs.q
 have sJ:Q (bf x):=⟨hs.sm hx⟩
 have jg:=hs.cE hx
 have U1:=jg.1
 have hml:=(List.getElem?_eq_some_iff.1 hx).1
 have oF:=(List.getElem?_eq_some_iff.1 hz).1
 have mF:m < (h.ap.map bh).length:=by rw [List.length_map];exact hml
 have y7:p < (x.ai.map aQ).length:=by rw [List.length_map];exact oF
 have X9:z.aJ= -1 ↔ z.aJ= -1∧z.aT=0:=⟨fun e=>⟨e,sH.2.2 e⟩,fun e=>e.1⟩
 have RU:bu.aJ= -1:=rfl
 have RW:bu.aT=0:=rfl
 have htn:=uq hn
 have U4:=sH.1
 have U5:=sH.2.1
 refine cS ?_
 refine aI (by assumption) ?_
 refine aI (by assumption) ?_
 refine cS ?_
 refine aI (by assumption) ?_
 refine aI (by assumption) ?_
 refine aB ?_ ?_ <;> intro hb
 refine oI 1000001 (AO (mi:=m) (pi:=p) h m x p z rfl rfl rfl hs ha hx hz (by omega)) ?_
 obtain ⟨x1,z1,kQ,sE,LF,hks⟩:∃ x1 z1,(cw h m p).ap[m]? = some x1∧x1.ai[p]? = some z1∧(0 ≤ z1.aT∧z1.aT ≤ 3)∧nD (cw h m p):=(by obtain ⟨y,t,h2,h3,h4⟩:=wg hs ha hx hz (by omega);exact ⟨y,_,h2,h3,⟨by show (0:Int) ≤ 3;decide,by show (3:Int) ≤ 3;decide⟩,tg hs ha hx hz (by omega)⟩)
 have hme:cL h m p need=if ry need 2=0 then cw h m p else Ai (cw h m p) m p:=(by unfold cL;rw [gL hx hz];simp only [if_pos (show z.aJ= -1 by omega)])
 have qk:Q (aj (cw h m p)):=hks.q
 have hmk:=hks.cE kQ
 have F5:=hmk.1
 have U6:=hmk.2.2.1
 have qx:Q (bf x1):=⟨hks.sm kQ⟩
 have LH:=(List.getElem?_eq_some_iff.1 kQ).1
 have Pg:m < ((cw h m p).ap.map bh).length:=by rw [List.length_map];exact LH
 have hkp:=(List.getElem?_eq_some_iff.1 sE).1
 have U7:p < (x1.ai.map aQ).length:=by rw [List.length_map];exact hkp
 obtain ⟨bd,hbd⟩:∃ b,x1.a_[p]? = some b:=⟨_,List.getElem?_eq_getElem (by omega)⟩
 have NU:=(List.getElem?_eq_some_iff.1 hbd).1
 have U8:p < (x1.a_.map bz).length:=by rw [List.length_map];exact NU
 have htz:=uq LF
 refine ah (fm need 2).k ?_
 refine aB ?_ ?_ <;> intro gY
 exact (by rw [hme,if_pos (by simp_all)];exact ⟨rfl,rfl⟩)
 refine cS ?_
 refine aI (by assumption) ?_
 refine aI (by assumption) ?_
 refine cS ?_
 refine aI (by assumption) ?_
 refine aI (by assumption) ?_
 refine cA ?_
 refine cA ?_
 refine cS ?_
 refine cA ?_
 refine aI (by assumption) ?_
 refine ah (fm z1.aT 2).k ?_
 refine aB ?_ ?_ <;> intro tY
 refine cA ?_
 refine cA ?_
 refine cS ?_
 refine cA ?_
 refine aI (by assumption) ?_
 refine oI 1000001 (iY (row:=D4 (cw h m p) m x1 p z1) (F7 (cw h m p) m x1 p z1) m (F6 x1 p z1) p (F8 (cw h m p) m x1 p z1) (dz kQ) hmk.2.2.2 (Nn hks kQ)) ?_
 exact (by rw [hme,if_neg (by simp_all),Jk kQ sE (by simp_all)];exact ⟨rfl,rfl⟩)
 exact (by rw [hme,if_neg (by simp_all),rV kQ sE (by simp_all), ← iB];exact ⟨rfl,rfl⟩)
 obtain ⟨x1,z1,kQ,sE,LF,hks⟩:∃ x1 z1,h.ap[m]? = some x1∧x1.ai[p]? = some z1∧(0 ≤ z1.aT∧z1.aT ≤ 3)∧nD h:=⟨x,z,hx,hz,⟨U4,U5⟩,hs⟩
 have hme:cL h m p need=if ry need 2=0 then h else Ai h m p:=(by unfold cL;rw [gL hx hz];simp only [if_neg (show ¬ z.aJ= -1 by omega)])
 have qk:Q (aj h):=hks.q
 have hmk:=hks.cE kQ
 have F5:=hmk.1
 have U6:=hmk.2.2.1
 have qx:Q (bf x1):=⟨hks.sm kQ⟩
 have LH:=(List.getElem?_eq_some_iff.1 kQ).1
 have Pg:m < (h.ap.map bh).length:=by rw [List.length_map];exact LH
 have hkp:=(List.getElem?_eq_some_iff.1 sE).1
 have U7:p < (x1.ai.map aQ).length:=by rw [List.length_map];exact hkp
 obtain ⟨bd,hbd⟩:∃ b,x1.a_[p]? = some b:=⟨_,List.getElem?_eq_getElem (by omega)⟩
 have NU:=(List.getElem?_eq_some_iff.1 hbd).1
 have U8:p < (x1.a_.map bz).length:=by rw [List.length_map];exact NU
 have htz:=uq LF
 refine ah (fm need 2).k ?_
 refine aB ?_ ?_ <;> intro yW
 exact (by rw [hme,if_pos (by simp_all)];exact ⟨rfl,rfl⟩)
 refine cS ?_
 refine aI (by assumption) ?_
 refine aI (by assumption) ?_
 refine cS ?_
 refine aI (by assumption) ?_
 refine aI (by assumption) ?_
 refine cA ?_
 refine cA ?_
 refine cS ?_
 refine cA ?_
 refine aI (by assumption) ?_
 refine ah (fm z1.aT 2).k ?_
 refine aB ?_ ?_ <;> intro CE
 refine cA ?_
 refine cA ?_
 refine cS ?_
 refine cA ?_
 refine aI (by assumption) ?_
 refine oI 1000001 (iY (row:=D4 h m x1 p z1) (F7 h m x1 p z1) m (F6 x1 p z1) p (F8 h m x1 p z1) (dz kQ) hmk.2.2.2 (Nn hks kQ)) ?_
 exact (by rw [hme,if_neg (by simp_all),Jk kQ sE (by simp_all)];exact ⟨rfl,rfl⟩)
 exact (by rw [hme,if_neg (by simp_all),rV kQ sE (by simp_all), ← iB];exact ⟨rfl,rfl⟩)
theorem F9 (h:an) (m:Nat) (x:aO) (p:Nat) (z:aL) (need:Int) (hn:0 ≤ need∧need ≤ 3) (hs:nD h) (ha:jE h) (hx:h.ap[m]? = some x) (hz:x.ai[p]? = some z) (sH:Wd z):lO Tryz.prog 353 (aq h) [.one (.agg [.ref ⟨1000000,[],0⟩, .ref ⟨1000000,[],1⟩, .ref ⟨1000000,[],2⟩, .ref ⟨1000000,[],3⟩]),I m,I p,I need] (RG [.a (aq (cL h m p need))]):=by
 refine lO.w 58 Tryz.func353 fun w g0 _=> ?_
 have qh:Q (aj h):=hs.q
 have sJ:Q (bf x):=⟨hs.sm hx⟩
 have jg:=hs.cE hx
 have U1:=jg.1
 have hml:=(List.getElem?_eq_some_iff.1 hx).1
 have oF:=(List.getElem?_eq_some_iff.1 hz).1
 have mF:m < (h.ap.map bh).length:=by rw [List.length_map];exact hml
 have y7:p < (x.ai.map aQ).length:=by rw [List.length_map];exact oF
 have X9:z.aJ= -1 ↔ z.aJ= -1∧z.aT=0:=⟨fun e=>⟨e,sH.2.2 e⟩,fun e=>e.1⟩
 have RU:bu.aJ= -1:=rfl
 have RW:bu.aT=0:=rfl
 have htn:=uq hn
 have U4:=sH.1
 have U5:=sH.2.1
 refine pM ?_
 refine cS ?_
 refine aI (by assumption) ?_
 refine aI (by assumption) ?_
 refine cS ?_
 refine aI (by assumption) ?_
 refine aI (by assumption) ?_
 refine iQ (cW).k ?_
 refine RQ ?_
 refine aB ?_ ?_ <;> intro hb
 refine jr [(1000000,0),(1000000,1),(1000000,2),(1000000,3)] (AP (mi:=m) (pi:=p) h m x p z rfl rfl rfl hs ha hx hz (by omega)) ?_
 obtain ⟨x1,z1,kQ,sE,LF,hks⟩:∃ x1 z1,(cw h m p).ap[m]? = some x1∧x1.ai[p]? = some z1∧(0 ≤ z1.aT∧z1.aT ≤ 3)∧nD (cw h m p):=(by obtain ⟨y,t,h2,h3,h4⟩:=wg hs ha hx hz (by omega);exact ⟨y,_,h2,h3,⟨by show (0:Int) ≤ 3;decide,by show (3:Int) ≤ 3;decide⟩,tg hs ha hx hz (by omega)⟩)
 have hme:cL h m p need=if ry need 2=0 then cw h m p else Ai (cw h m p) m p:=(by unfold cL;rw [gL hx hz];simp only [if_pos (show z.aJ= -1 by omega)])
 have qk:Q (aj (cw h m p)):=hks.q
 have hmk:=hks.cE kQ
 have F5:=hmk.1
 have U6:=hmk.2.2.1
 have qx:Q (bf x1):=⟨hks.sm kQ⟩
 have LH:=(List.getElem?_eq_some_iff.1 kQ).1
 have Pg:m < ((cw h m p).ap.map bh).length:=by rw [List.length_map];exact LH
 have hkp:=(List.getElem?_eq_some_iff.1 sE).1
 have U7:p < (x1.ai.map aQ).length:=by rw [List.length_map];exact hkp
 obtain ⟨bd,hbd⟩:∃ b,x1.a_[p]? = some b:=⟨_,List.getElem?_eq_getElem (by omega)⟩
 have NU:=(List.getElem?_eq_some_iff.1 hbd).1
 have U8:p < (x1.a_.map bz).length:=by rw [List.length_map];exact NU
 have htz:=uq LF
 refine aB ?_ ?_ <;> intro gY
 exact (by rw [hme,if_pos (by simp_all)];rfl)
 refine cS ?_
 refine aI (by assumption) ?_
 refine aI (by assumption) ?_
 refine cS ?_
 refine aI (by assumption) ?_
 refine aI (by assumption) ?_
 refine cS ?_
 refine cA ?_
 refine cA ?_
 refine cS ?_
 refine cA ?_
 refine aI (by assumption) ?_
 refine aB ?_ ?_ <;> intro tY
 refine jr [(4,0),(4,1),(4,2),(4,3)] (jA (row:=ur (cw h m p) m x1 p) (rU (cw h m p) m x1 p) m (uU x1 p) p z1 ⟨z1.aJ,3⟩ (iB (cw h m p) m x1 p) (dz kQ) hmk.2.2.2 sE (nZ hks kQ).1) ?_
 exact (by rw [hme,if_neg (by simp_all),q9 kQ sE (by simp_all)];rfl)
 exact (by rw [hme,if_neg (by simp_all),rV kQ sE (by simp_all), ← iB];rfl)
 obtain ⟨x1,z1,kQ,sE,LF,hks⟩:∃ x1 z1,h.ap[m]? = some x1∧x1.ai[p]? = some z1∧(0 ≤ z1.aT∧z1.aT ≤ 3)∧nD h:=⟨x,z,hx,hz,⟨U4,U5⟩,hs⟩
 have hme:cL h m p need=if ry need 2=0 then h else Ai h m p:=(by unfold cL;rw [gL hx hz];simp only [if_neg (show ¬ z.aJ= -1 by omega)])
 have qk:Q (aj h):=hks.q
 have hmk:=hks.cE kQ
 have F5:=hmk.1
 have U6:=hmk.2.2.1
 have qx:Q (bf x1):=⟨hks.sm kQ⟩
 have LH:=(List.getElem?_eq_some_iff.1 kQ).1
 have Pg:m < (h.ap.map bh).length:=by rw [List.length_map];exact LH
 have hkp:=(List.getElem?_eq_some_iff.1 sE).1
 have U7:p < (x1.ai.map aQ).length:=by rw [List.length_map];exact hkp
 obtain ⟨bd,hbd⟩:∃ b,x1.a_[p]? = some b:=⟨_,List.getElem?_eq_getElem (by omega)⟩
 have NU:=(List.getElem?_eq_some_iff.1 hbd).1
 have U8:p < (x1.a_.map bz).length:=by rw [List.length_map];exact NU
 have htz:=uq LF
 refine aB ?_ ?_ <;> intro yW
 exact (by rw [hme,if_pos (by simp_all)];rfl)
 refine cS ?_
 refine aI (by assumption) ?_
 refine aI (by assumption) ?_
 refine cS ?_
 refine aI (by assumption) ?_
 refine aI (by assumption) ?_
 refine cS ?_
 refine cA ?_
 refine cA ?_
 refine cS ?_
 refine cA ?_
 refine aI (by assumption) ?_
 refine aB ?_ ?_ <;> intro CE
 refine jr [(1000000,0),(1000000,1),(1000000,2),(1000000,3)] (jA (row:=ur h m x1 p) (rU h m x1 p) m (uU x1 p) p z1 ⟨z1.aJ,3⟩ (iB h m x1 p) (dz kQ) hmk.2.2.2 sE (nZ hks kQ).1) ?_
 exact (by rw [hme,if_neg (by simp_all),q9 kQ sE (by simp_all)];rfl)
 exact (by rw [hme,if_neg (by simp_all),rV kQ sE (by simp_all), ← iB];rfl)
end
section
variable {g n:Int} {b:aV} {x:av}
set_option maxRecDepth 100000
set_option maxHeartbeats 8000000
abbrev aD (b:aV) (g:Int):av:=(kS b.aa g).getD tT
theorem at_mem {α:Type} {xs:List α} {i:Int} {r: α} (h:kS xs i=some r):r ∈ xs:=by
 unfold kS at h
 split at h
 exact List.mem_of_getElem? h
 cases h
theorem CO (hg:¬ (0 ≤ g∧g < b.aa.length)):kS b.aa g=none:=nR hg
theorem F_ (h0:0 ≤ g) (hx:b.aa[g.toNat]? = some x):kS b.aa g=some x:=oL h0 hx
theorem Ga:aG tT:=⟨by simp [qI],by simp [dZ],by simp [dZ],by simp [c4]⟩
theorem Gb (hb:aW b):aG (aD b g):=by
 unfold aD
 cases h1:kS b.aa g with
 | none=>exact Ga
 | some x=>
  unfold kS at h1
  split at h1
  exact hb.2.1.2 x (List.mem_of_getElem? h1)
  cases h1
instance (b:aV) (g:Int) [hb:Q (aW b)]:Q (aG (aD b g)):=⟨Gb hb.h⟩
theorem U9 (hg:¬ (0 ≤ g∧g < b.aa.length)):bW b g x=b:=by unfold bW;rw [Aj hg]
theorem QW (h0:0 ≤ g):bW b g x={ b with aa:=b.aa.set g.toNat x }:=by unfold bW;rw [tX h0]
theorem Xw (hb:aW b) (hx:aG x):aW (bW b g x):=by
 refine ⟨hb.1,⟨?_,fun y hy=> ?_⟩,hb.2.2⟩
 show (put b.aa g x).length ≤ _
 rw [ol];exact hb.2.1.1
 have hy:y ∈ put b.aa g x:=hy
 unfold put at hy
 split at hy
 rcases List.mem_or_eq_of_mem_set hy with hy|rfl
 exact hb.2.1.2 y hy
 exact hx
 exact hb.2.1.2 y hy
theorem Xx (h:b.bX.length < 40):qO b n={ b with bX:=b.bX ++ [n] }:=by unfold qO;rw [if_pos h]
theorem U_ (h:¬ b.bX.length < 40):qO b n=b:=by unfold qO;rw [if_neg h]
theorem R6 (hb:aW b):aW (qO b n):=by
 unfold qO
 split
 refine ⟨hb.1,hb.2.1, ?_⟩
 show (b.bX ++ [n]).length ≤ _
 rw [List.length_append,List.length_singleton];omega
 exact hb
instance (b:aV) (n:Int) [hb:Q (aW b)]:Q (aW (qO b n)):=⟨R6 hb.h⟩
def NY (b:aV) (g:Int):Bool:=dm b && decide (0 ≤ g∧g < b.aa.length)
theorem q_ (b:aV) (g:Int) [Q (aW b)]:aF Tryz.prog 387 [A (bC b),I g] (RG [.a (bB (aD b g)), .c (.v (.bool (kS b.aa g).isSome))]):=by
 refine aF.w 19 Tryz.func387 fun w g0 hM=> ?_
 have eK:=hM.1.2.1.map
 refine len ?_
 refine ah (bA _ _).k ?_
 refine aB ?_ ?_ <;> intro hb
 ·exact (by rw [aD,CO (by omega)];rfl)
 ·refine xN (fun y16 OQ OR OS=> ?_)
  skip
  refine ak (eu _).k ?_
  exact (by rw [aD,F_ (by omega) (by assumption)];rfl)
theorem wi (b:aV) (g:Int) [Q (aW b)]:pg Tryz.prog 387 [A (bC b),I g] (.lp [.agg ((bB (aD b g)).map C.ro), .c (.ro (.v (.bool (kS b.aa g).isSome)))]):=by
 refine pg.w 19 Tryz.func387 fun w g0 hM=> ?_
 have eK:=hM.1.2.1.map
 refine len ?_
 refine ah (bA _ _).k ?_
 refine aB ?_ ?_ <;> intro hb
 ·exact (by (repeat refine eB.mk WD.w ?_);(rw [aD,CO (by omega)];rfl))
 ·refine xN (fun y16 OQ OR OS=> ?_)
  skip
  refine ak (eu _).k ?_
  exact (by (repeat refine eB.mk WD.w ?_);(rw [aD,F_ (by omega) (by assumption)];rfl))
theorem cH (b:aV) (g:Int) (x:av) [Q (aW b)] [Q (aG x)]:aF Tryz.prog 389 [A (bC b),I g,A (bB x)] (RG [.a (bC (bW b g x))]):=by
 refine aF.w 22 Tryz.func389 fun w g0 hM=> ?_
 have eK:=hM.1.2.1.map
 refine ak (cN b).k ?_
 refine len ?_
 refine ah (bA _ _).k ?_
 refine aB ?_ ?_ <;> intro hb
 refine cJ [6] [(0,0),(1,0),(2,0),(3,0),(4,1),(5,0),(6,1)] ?_
 refine ak (eu x).k ?_
 refine aZ ?_
 refine rA (fun z1 Xc Xd Xe=> ?_)
 exact (by rw [QW (by omega)];simp only [bC,List.map_set];rfl)
 exact (by rw [U9 (by omega)];rfl)
theorem HX (b:aV) (n:Int) [Q (aW b)]:aF Tryz.prog 395 [A (bC b),I n] (RG [.a (bC (qO b n))]):=by
 refine aF.w 19 Tryz.func395 fun w g0 _=> ?_
 refine ak (cN b).k ?_
 refine len ?_
 refine aB ?_ ?_ <;> intro hb
 refine cB ?_
 exact (by rw [Xx (by omega)];simp only [bC,List.map_append];rfl)
 exact (by rw [U_ (by omega)];rfl)
theorem lm (b:aV) (g:Int) [Q (aW b)]:aF Tryz.prog 447 [A (bC b),I g] (RV (.bool (NY b g))):=by
 refine aF.w 15 Tryz.func447 fun w g0 hM=> ?_
 have eK:=hM.1.2.1.map
 refine ah (sw _).k ?_
 refine aB ?_ ?_ <;> intro mS
 refine len ?_
 refine cD ?_
 refine ah (aE _ _ _).k ?_
 exact ay (by refine congrArg Value.bool ?_;rw [Bool.eq_iff_iff];simp [NY, *];omega)
 exact ay (by simp [NY, *];done)
theorem yp (b:aV) (g:Int) [Q (aW b)]:aF Tryz.prog 402 [A (bC b),I g] (RP (A (oJ (aD b g).Exit))):=by
 refine aF.w 15 Tryz.func402 fun w g0 _=> ?_
 refine ak (q_ b g).k ?_
 exact rfl
end
end Go.Proofs.YtdliggkohdnipaaGreat.T
