import Derived.Test.YtdliggkohdnipaaGreatOcr
set_option linter.unusedVariables false
set_option linter.unusedSimpArgs false
namespace Go.Proofs.YtdliggkohdnipaaGreat.T
open Go
section
variable {mi pi:Int} {row:List D} {m p:Nat} {h:an} {x:aO} {z:aL}
set_option maxRecDepth 100000
set_option maxHeartbeats 8000000
def O5 (x:aO) (p:Nat):aO:={ x with a_:=x.a_.set p false }
def jB (h:an) (m:Nat) (x:aO) (p:Nat):an:={ h with ap:=h.ap.set m (O5 x p) }
def q4 (x:aO) (p:Nat) (z:aL):aO:={ x with ai:=x.ai.set p ⟨z.aJ,1⟩ }
def uf (h:an) (m:Nat) (x:aO) (p:Nat) (z:aL):an:={ h with ap:=h.ap.set m (q4 x p z) }
theorem QL (x:aO) (p:Nat):bh (O5 x p)= .st [.sl 2 (x.ai.map aQ), .sl 1 (x.Out.map aN), .sl 1 ((x.a_.map bz).set p (.v (.bool false))), .sl 15 (x.aa.map aY), .sl 1 (x.bX.map bH), .v (.int .i64 x.ax), .v (.int .i64 x.bq), .sl 2 (x.Tables.map bS), .v (.int .i64 x.Own)]:=by
 show D.st [_,_, .sl 1 ((x.a_.set p false).map bz),_,_,_,_,_,_]=_
 rw [List.map_set]
 rfl
theorem rd_dm (x:aO) (p:Nat) (z:aL):bh (q4 x p z)= .st [.sl 2 ((x.ai.map aQ).set p (.st [.v (.int .i64 z.aJ), .v (.int .i64 1)])), .sl 1 (x.Out.map aN), .sl 1 (x.a_.map bz), .sl 15 (x.aa.map aY), .sl 1 (x.bX.map bH), .v (.int .i64 x.ax), .v (.int .i64 x.bq), .sl 2 (x.Tables.map bS), .v (.int .i64 x.Own)]:=by
 show D.st [.sl 2 ((x.ai.set p ⟨z.aJ,1⟩).map aQ),_,_,_,_,_,_,_,_]=_
 rw [List.map_set]
 rfl
abbrev KH (h:an) (m:Nat) (x:aO) (p:Nat):List D:=[.sl 1 (h.au.map aN), .sl 9 ((h.ap.map bh).set m (.st [.sl 2 (x.ai.map aQ), .sl 1 (x.Out.map aN), .sl 1 ((x.a_.map bz).set p (.v (.bool false))), .sl 15 (x.aa.map aY), .sl 1 (x.bX.map bH), .v (.int .i64 x.ax), .v (.int .i64 x.bq), .sl 2 (x.Tables.map bS), .v (.int .i64 x.Own)])), .sl 4 (h.Buffer.map aA), .sl 4 (h.aC.map aA)]
theorem y8 (h:an) (m:Nat) (x:aO) (p:Nat):KH h m x p=aq (jB h m x p):=by
 unfold KH jB
 rw [← QL, ← List.map_set]
abbrev UL (h:an) (m:Nat) (x:aO) (p:Nat) (z:aL):List D:=[.sl 1 (h.au.map aN), .sl 9 ((h.ap.map bh).set m (.st [.sl 2 ((x.ai.map aQ).set p (.st [.v (.int .i64 z.aJ), .v (.int .i64 1)])), .sl 1 (x.Out.map aN), .sl 1 (x.a_.map bz), .sl 15 (x.aa.map aY), .sl 1 (x.bX.map bH), .v (.int .i64 x.ax), .v (.int .i64 x.bq), .sl 2 (x.Tables.map bS), .v (.int .i64 x.Own)])), .sl 4 (h.Buffer.map aA), .sl 4 (h.aC.map aA)]
theorem UM (h:an) (m:Nat) (x:aO) (p:Nat) (z:aL):UL h m x p z=aq (uf h m x p z):=by
 unfold UL uf
 rw [← rd_dm, ← List.map_set]
theorem DX (hx:bf x):bf (O5 x p):=⟨hx.1,hx.2.1,by show (x.a_.set _ _).length ≤ _;rw [List.length_set];exact hx.2.2.1,hx.2.2.2⟩
theorem sm_rd (hx:bf x):bf (q4 x p z):=⟨by show (x.ai.set _ _).length ≤ _;rw [List.length_set];exact hx.1,hx.2⟩
theorem mj {y:aO} (hh:aj h) (hy:bf y):aj { h with ap:=h.ap.set m y }:=by
 refine ⟨hh.1,⟨by show (h.ap.set _ _).length ≤ _;rw [List.length_set];exact hh.2.1.1,fun w hw=> ?_⟩,hh.2.2⟩
 rcases List.mem_or_eq_of_mem_set hw with hw|rfl
 exact hh.2.1.2 w hw
 exact hy
def guarded (h:an) (m:Nat) (x:aO) (p:Nat) (z:aL):an:=iC (jB h m x p) m (O5 x p) p z ⟨z.aJ,1⟩
theorem CJ (hx:h.ap[m]? = some x):lR h m p false=jB h m x p:=by
 unfold lR fD
 rw [kM hx]
 rfl
theorem FE (hx:h.ap[m]? = some x) (hz:x.ai[p]? = some z) (h1:z.aJ= -1):BI h m p=jB h m x p:=by
 unfold BI
 rw [gL hx hz,if_pos h1,CJ hx]
theorem FF (hx:h.ap[m]? = some x) (hz:x.ai[p]? = some z) (h1:¬ z.aJ= -1):BI h m p=guarded h m x p z:=by
 unfold BI
 rw [gL hx hz,if_neg h1,CJ hx]
 have h2:(jB h m x p).ap[m]? = some (O5 x p):=dz hx
 exact qY h2 hz
theorem FG {m p:Int} (hp:dG h m p=false):guard h m p=none:=by unfold guard;rw [hp];rfl
theorem mI {m p:Int} (hp:dG h m p=true):guard h m p=some (BI h m.toNat p.toNat):=by unfold guard;rw [hp];rfl
def lq (x:aO) (p:Nat) (z:aL):aO:={ q4 x p z with Tables:=eL (q4 x p z) p }
theorem M4:aq (guarded h m x p z)=[.sl 1 ((spoilt (uf h m x p z) m (q4 x p z) p z).au.map aN), .sl 9 (((spoilt (uf h m x p z) m (q4 x p z) p z).ap.map bh).set m (.st [.sl 2 ((lq x p z).ai.map aQ), .sl 1 ((lq x p z).Out.map aN), .sl 1 (((lq x p z).a_.map bz).set p (.v (.bool false))), .sl 15 ((lq x p z).aa.map aY), .sl 1 ((lq x p z).bX.map bH), .v (.int .i64 (lq x p z).ax), .v (.int .i64 (lq x p z).bq), .sl 2 ((lq x p z).Tables.map bS), .v (.int .i64 (lq x p z).Own)])), .sl 4 ((spoilt (uf h m x p z) m (q4 x p z) p z).Buffer.map aA), .sl 4 ((spoilt (uf h m x p z) m (q4 x p z) p z).aC.map aA)]:=by
 have e:bh (O5 (lq x p z) p)= .st [.sl 2 ((lq x p z).ai.map aQ), .sl 1 ((lq x p z).Out.map aN), .sl 1 (((lq x p z).a_.map bz).set p (.v (.bool false))), .sl 15 ((lq x p z).aa.map aY), .sl 1 ((lq x p z).bX.map bH), .v (.int .i64 (lq x p z).ax), .v (.int .i64 (lq x p z).bq), .sl 2 ((lq x p z).Tables.map bS), .v (.int .i64 (lq x p z).Own)]:=QL _ _
 rw [← e, ← List.map_set]
 unfold spoilt guarded iC jB uf
 simp only [List.set_set]
 rfl
theorem y_ {s:aL} (h:an) (m:Nat) (x:aO) (p:Nat) (Bj:mi=m) (Fy:pi=p) (hr:row=aq h) (hx:h.ap[m]? = some x) (ov:x.Tables.length=x.aa.length) (q:aj h):
  uE Tryz.prog 189 row 1 [.one (.ptr ⟨1000001,[],0⟩),I mi,I pi,A (gB s)] (zF (aq (spoilt h m x p s)) (.lp [])):=by
 subst Bj Fy hr
 have:Q (aj h):=⟨q⟩
 exact rP h m x p s hx ov
theorem C7 (h:an) (m:Nat) (x:aO) (p:Nat) (z s:aL) (Bj:mi=m) (Fy:pi=p) (hr:row=aq h) (hx:h.ap[m]? = some x) (ov:x.Tables.length=x.aa.length) (hz:x.ai[p]? = some z) (q:aj h):
  lO Tryz.prog 331 row [.one (.agg [.ref ⟨1000000,[],0⟩, .ref ⟨1000000,[],1⟩, .ref ⟨1000000,[],2⟩, .ref ⟨1000000,[],3⟩]),I mi,I pi,A (gB s)] (RG [.a (aq (iC h m x p z s))]):=by
 subst Bj Fy
 exact jA h m x p z s hr hx ov hz q
theorem Az (h:an) (m:Int) (p:Int) [Q (aj h)]:aF Tryz.prog 99 [A (aq h),I m,I p] (RG [.a (aq ((guard h m p).getD h)), .c (.v (.bool (guard h m p).isSome))]):=by
 refine aF.w 51 Tryz.func99 fun w g0 hM=> ?_
 have eK:=hM.1.2.1.map
 refine ak (aP h).k ?_
 refine ah (qW h m p).k ?_
 refine aB ?_ ?_ <;> intro hb
 exact (by rw [FG (by assumption)];rfl)
 have hn1:bu.aJ= -1:=rfl
 have hn2:bu.aT=0:=rfl
 have Ax:=eS.1 (by assumption:dG h m p=true)
 obtain ⟨x,hx⟩:∃ x,h.ap[m.toNat]? = some x:=⟨_,List.getElem?_eq_getElem (by omega)⟩
 have hmo:=dB (dU Ax.1 hx)
 obtain ⟨z,hz⟩:∃ z,x.ai[p.toNat]? = some z:=⟨_,List.getElem?_eq_getElem (by omega)⟩
 obtain ⟨b,hbd⟩:∃ b,x.a_[p.toNat]? = some b:=⟨_,List.getElem?_eq_getElem (by omega)⟩
 have hml:=(List.getElem?_eq_some_iff.1 hx).1
 have oF:=(List.getElem?_eq_some_iff.1 hz).1
 have mF:m.toNat < (h.ap.map bh).length:=by rw [List.length_map];exact hml
 have y7:p.toNat < (x.ai.map aQ).length:=by rw [List.length_map];exact oF
 have qx:Q (bf x):=⟨j6.h x (List.mem_of_getElem? hx)⟩
 have hzo:z.aJ= -1→z.aT=0:=fun e=>by rcases hmo.2.2.2.2.2 z (List.mem_of_getElem? hz) with rfl|h;(· exact rfl);(· omega)
 refine aZ ?_
 refine aI (by assumption) ?_
 refine aI (by assumption) ?_
 refine aZ ?_
 refine aI (by assumption) ?_
 refine aI (by assumption) ?_
 refine aB ?_ ?_ <;> intro gY
 refine aI (by assumption) ?_
 refine aI (by assumption) ?_
 refine aZ ?_
 refine aI (by assumption) ?_
 refine aI (by assumption) ?_
 have hsp:(spoilt (uf h m.toNat x p.toNat z) m.toNat (q4 x p.toNat z) p.toNat z).ap[m.toNat]? = some (lq x p.toNat z):=dz (dz hx)
 have hdl8:(lq x p.toNat z).a_.length=8:=hmo.2.2.2.2.1
 have hbd2:(lq x p.toNat z).a_[p.toNat]? = some b:=hbd
 have N0:=(List.getElem?_eq_some_iff.1 hsp).1
 have NU:=(List.getElem?_eq_some_iff.1 hbd).1
 refine callK 8 1 9 m.toNat 0 (y_ (mi:=m) (pi:=p) (row:=UL h m.toNat x p.toNat z) (uf h m.toNat x p.toNat z) m.toNat (q4 x p.toNat z) p.toNat (by omega) (by omega) (UM h m.toNat x p.toNat z) (dz hx) hmo.2.2.1 (mj (by assumption:Q (aj h)).h (sm_rd qx.h))) rfl rfl (by simp only [List.length_set,List.length_map];omega) (by rw [List.length_map];exact N0) ?_
 refine aI (by assumption) ?_
 refine aI (by assumption) ?_
 refine aZ ?_
 refine aI (by assumption) ?_
 refine aI (by assumption) ?_
 exact (by rw [mI (by assumption),FF hx hz (by omega),show ((some (guarded h m.toNat x p.toNat z)).getD h)=guarded h m.toNat x p.toNat z from rfl,M4];rfl)
 refine aI (by assumption) ?_
 refine aI (by assumption) ?_
 refine aZ ?_
 refine aI (by assumption) ?_
 refine aI (by assumption) ?_
 exact (by rw [mI (by assumption),FE hx hz (by omega),show ((some (jB h m.toNat x p.toNat)).getD h)=jB h m.toNat x p.toNat from rfl, ← y8];rfl)
theorem AA (h:an) (m:Int) (p:Int) [Q (aj h)]:aF Tryz.prog 215 [A (aq h),I m,I p] (RG [.a (aq ((guard h m p).getD h)), .c (.v (.bool (guard h m p).isSome))]):=by
 refine aF.w 45 Tryz.func215 fun w g0 hM=> ?_
 have eK:=hM.1.2.1.map
 refine ak (ct h).k ?_
 refine ah (pT h m p).k ?_
 refine aB ?_ ?_ <;> intro hb
 exact (by rw [FG (by assumption)];rfl)
 have hn1:bu.aJ= -1:=rfl
 have hn2:bu.aT=0:=rfl
 have Ax:=eS.1 (by assumption:dG h m p=true)
 obtain ⟨x,hx⟩:∃ x,h.ap[m.toNat]? = some x:=⟨_,List.getElem?_eq_getElem (by omega)⟩
 have hmo:=dB (dU Ax.1 hx)
 obtain ⟨z,hz⟩:∃ z,x.ai[p.toNat]? = some z:=⟨_,List.getElem?_eq_getElem (by omega)⟩
 obtain ⟨b,hbd⟩:∃ b,x.a_[p.toNat]? = some b:=⟨_,List.getElem?_eq_getElem (by omega)⟩
 have hml:=(List.getElem?_eq_some_iff.1 hx).1
 have oF:=(List.getElem?_eq_some_iff.1 hz).1
 have mF:m.toNat < (h.ap.map bh).length:=by rw [List.length_map];exact hml
 have y7:p.toNat < (x.ai.map aQ).length:=by rw [List.length_map];exact oF
 have qx:Q (bf x):=⟨j6.h x (List.mem_of_getElem? hx)⟩
 have hzo:z.aJ= -1→z.aT=0:=fun e=>by rcases hmo.2.2.2.2.2 z (List.mem_of_getElem? hz) with rfl|h;(· exact rfl);(· omega)
 refine aZ ?_
 refine aI (by assumption) ?_
 refine aI (by assumption) ?_
 refine aZ ?_
 refine aI (by assumption) ?_
 refine aI (by assumption) ?_
 refine aZ ?_
 refine cA ?_
 refine cA ?_
 refine aZ ?_
 refine cA ?_
 refine aI (by assumption) ?_
 refine pM ?_
 refine iQ (cW).k ?_
 refine RQ ?_
 refine aB ?_ ?_ <;> intro gY
 exact (by rw [mI (by assumption),FE hx hz (by omega),show ((some (jB h m.toNat x p.toNat)).getD h)=jB h m.toNat x p.toNat from rfl, ← y8];rfl)
 refine jr [(3,0),(3,1),(3,2),(3,3)] (C7 (mi:=m) (pi:=p) (row:=KH h m.toNat x p.toNat) (jB h m.toNat x p.toNat) m.toNat (O5 x p.toNat) p.toNat z ⟨z.aJ,1⟩ (by omega) (by omega) (y8 h m.toNat x p.toNat) (dz hx) hmo.2.2.1 hz (mj (by assumption:Q (aj h)).h (DX qx.h))) ?_
 exact (by rw [mI (by assumption),FF hx hz (by omega)];rfl)
end
end Go.Proofs.YtdliggkohdnipaaGreat.T
