import Derived.Test.YtdliggkohdnipaaGreatNwr
import Derived.Test.YtdliggkohdnipaaGreatNsr
set_option linter.unusedVariables false
set_option linter.unusedSimpArgs false
namespace Go.Proofs.YtdliggkohdnipaaGreat.T
open Go
section
variable {p:Nat} {h:an} {x:aO} {z:aL}
set_option maxRecDepth 100000
set_option maxHeartbeats 8000000
theorem iY {row:List D} {s:aL} (h:an) (m:Nat) (x:aO) (p:Int) (hr:row=aq h) (hx:h.ap[m]? = some x) (ov:x.Tables.length=x.aa.length) (q:aj h):
  eA Tryz.prog 189 ⟨true,row⟩ [.one (.ptr ⟨1000001,[],0⟩),I m,I p,A (gB s)] (zF (aq (spoilt h m x p s)) (.lp [])):=by
 subst hr
 have:Q (aj h):=⟨q⟩
 exact (rP h m x p s hx ov).two
theorem M2 {m:List (List Int)} (h:dY m) (n:Int):c4 (eo m n):=by
 unfold eo kS
 split
 cases hx:m[n.toNat]? with
 | none=>simp [c4]
 | some x=>exact h.2 x (List.mem_of_getElem? hx)
 simp [c4]
def pU (h:an) (x:aO) (p:Nat) (z:aL):aO:={ x with Out:=x.Out.set p (eo h.au z.aJ),ai:=x.ai.set p bu }
def oR (h:an) (m:Nat) (x:aO) (p:Nat) (z:aL):an:={ h with ap:=h.ap.set m (pU h x p z) }
abbrev KE (h:an) (m:Nat) (x:aO) (p:Nat) (z:aL):List D:=[.sl 1 (h.au.map aN), .sl 9 (((h.ap.map bh).set m (.st [.sl 2 (x.ai.map aQ), .sl 1 ((x.Out.map aN).set p (.sl 1 ((eo h.au z.aJ).map bH))), .sl 1 (x.a_.map bz), .sl 15 (x.aa.map aY), .sl 1 (x.bX.map bH), .v (.int .i64 x.ax), .v (.int .i64 x.bq), .sl 2 (x.Tables.map bS), .v (.int .i64 x.Own)])).set m (.st [.sl 2 ((x.ai.map aQ).set p (.st [.v (.int .i64 bu.aJ), .v (.int .i64 bu.aT)])), .sl 1 ((x.Out.map aN).set p (.sl 1 ((eo h.au z.aJ).map bH))), .sl 1 (x.a_.map bz), .sl 15 (x.aa.map aY), .sl 1 (x.bX.map bH), .v (.int .i64 x.ax), .v (.int .i64 x.bq), .sl 2 (x.Tables.map bS), .v (.int .i64 x.Own)])), .sl 4 (h.Buffer.map aA), .sl 4 (h.aC.map aA)]
theorem O3 (h:an) (m:Nat) (x:aO) (p:Nat) (z:aL):KE h m x p z=aq (oR h m x p z):=by
 have e:bh (pU h x p z)= .st [.sl 2 ((x.ai.map aQ).set p (aQ bu)), .sl 1 ((x.Out.map aN).set p (.sl 1 ((eo h.au z.aJ).map bH))), .sl 1 (x.a_.map bz), .sl 15 (x.aa.map aY), .sl 1 (x.bX.map bH), .v (.int .i64 x.ax), .v (.int .i64 x.bq), .sl 2 (x.Tables.map bS), .v (.int .i64 x.Own)]:=by
  show D.st [.sl 2 ((x.ai.set p bu).map aQ), .sl 1 ((x.Out.set p (eo h.au z.aJ)).map aN),_,_,_,_,_,_,_]=_
  rw [List.map_set,List.map_set]
  rfl
 unfold KE oR
 rw [List.set_set]
 show _=[_,D.sl 9 ((h.ap.set m (pU h x p z)).map bh),_,_]
 rw [List.map_set,e]
theorem Fw (hh:aj h) (hx:bf x):bf (pU h x p z):=by
 refine ⟨by show (x.ai.set _ _).length ≤ _;rw [List.length_set];exact hx.1,⟨by show (x.Out.set _ _).length ≤ _;rw [List.length_set];exact hx.2.1.1,fun y hy=> ?_⟩,hx.2.2⟩
 rcases List.mem_or_eq_of_mem_set hy with hy|rfl
 exact hx.2.1.2 y hy
 exact M2 hh.1 _
theorem CH {m:Nat} (hh:aj h) (hx:bf x):aj (oR h m x p z):=by
 refine ⟨hh.1,⟨by show (h.ap.set _ _).length ≤ _;rw [List.length_set];exact hh.2.1.1,fun y hy=> ?_⟩,hh.2.2⟩
 rcases List.mem_or_eq_of_mem_set hy with hy|rfl
 exact hh.2.1.2 y hy
 exact Fw hh hx
theorem M3 (h:an) (m:Nat) (x:aO) (p:Nat) (z:aL) (hx:h.ap[m]? = some x) (ov:x.Tables.length=x.aa.length) (hz:x.ai[p]? = some z) (N7:x.Out.length=8) (HA:x.ai.length=8) [Q (aj h)]:eA Tryz.prog 294 (⟨true,aq h⟩) [.one (.ptr ⟨1000001,[],0⟩),I m,I p] (zF (aq (spoilt (oR h m x p z) m (pU h x p z) p z)) (.lp [])):=by
 refine eA.w 46 Tryz.func294 fun w g0 _=> ?_
 have qx:Q (bf x):=⟨j6.h x (List.mem_of_getElem? hx)⟩
 have hml:=(List.getElem?_eq_some_iff.1 hx).1
 have oF:=(List.getElem?_eq_some_iff.1 hz).1
 have mF:m < (h.ap.map bh).length:=by rw [List.length_map];exact hml
 have y7:p < (x.ai.map aQ).length:=by rw [List.length_map];exact oF
 obtain ⟨y,hy⟩:∃ y,x.Out[p]? = some y:=⟨_,List.getElem?_eq_getElem (by omega)⟩
 first|refine fN (by assumption) ?_|refine cS ?_
 first|refine cA ?_|refine aI (by assumption) ?_
 first|refine cA ?_|refine aI (by assumption) ?_
 first|refine fN (by assumption) ?_|refine cS ?_
 first|refine cA ?_|refine aI (by assumption) ?_
 first|refine cA ?_|refine aI (by assumption) ?_
 refine cJ [13] [(0,0),(1,0),(2,0),(3,0),(4,0),(5,0),(6,0),(7,0),(8,0),(9,0),(10,0),(11,1),(12,0),(13,1)] ?_
 first|refine cA ?_|refine aI (by assumption) ?_
 refine bk (su _ _).k ?_
 first|refine cA ?_|refine aI (by assumption) ?_
 first|refine fN (by assumption) ?_|refine cS ?_
 first|refine cA ?_|refine aI (by assumption) ?_
 first|refine cA ?_|refine aI (by assumption) ?_
 refine cJ [7] [(0,0),(1,0),(2,0),(3,0),(4,0),(5,1),(6,0),(7,1)] ?_
 refine cA ?_
 refine ah (eM).k ?_
 refine cA ?_
 first|refine fN (by assumption) ?_|refine cS ?_
 refine cA ?_
 first|refine cA ?_|refine aI (by assumption) ?_
 refine oI 1000001 (iY (row:=KE h m x p z) (oR h m x p z) m (pU h x p z) p (O3 h m x p z) (dz hx) ov (CH (by assumption:Q (aj h)).h qx.h)) ?_
 exact ⟨rfl,rfl⟩
end
set_option maxRecDepth 100000
set_option maxHeartbeats 8000000
theorem O4 {f:Nat→Bool} {n:Nat} {p:Int} (h:p ∈ cz f n):0 ≤ p∧p < n:=by
 unfold cz at h
 obtain ⟨k,hk,rfl⟩:=List.mem_map.1 h
 have:=List.mem_range.1 (List.mem_filter.1 hk).1
 omega
theorem Fx {h:an} {m:Int} (hh:aj h):bf (dx h m):=by
 unfold dx
 cases h1:je h m with
 | none=>exact ⟨by simp [dZ],⟨by simp,fun x hx=>by cases hx⟩,by simp [m4],⟨by simp,fun x hx=>by cases hx⟩,by simp [c4],⟨by simp,fun x hx=>by cases hx⟩⟩
 | some x=>
  unfold je kS at h1
  split at h1
  exact hh.2.1.2 x (List.mem_of_getElem? h1)
  cases h1
section
variable {m p:Nat} {h:an} {x:aO} {z:aL}
set_option maxRecDepth 100000
set_option maxHeartbeats 8000000
theorem kM (hx:h.ap[m]? = some x):cE h m=x:=by unfold cE;rw [hx];rfl
theorem gL (hx:h.ap[m]? = some x) (hz:x.ai[p]? = some z):o6 h m p=z:=by unfold o6;rw [kM hx,hz];rfl
theorem qY {s:aL} (hx:h.ap[m]? = some x) (hz:x.ai[p]? = some z):
  tU h m p s={ h with ap:=h.ap.set m { x with Tables:=eL x p,ai:=x.ai.set p s },Buffer:=if z.aJ= -1 then h.Buffer else cV h.Buffer z.aJ,aC:=if z.aJ= -1 then h.aC else cV h.aC z.aJ }:=by
 unfold tU
 simp only [kM hx,gL hx hz]
theorem p9 {l:List Int} (hx:h.ap[m]? = some x):vA h m p l={ h with ap:=h.ap.set m { x with Out:=x.Out.set p l } }:=by
 unfold vA fD
 rw [kM hx]
theorem QI (hx:h.ap[m]? = some x) (hz:x.ai[p]? = some z):spoilt (oR h m x p z) m (pU h x p z) p z=cr h m p:=by
 have h1:(vA h m p (eo h.au z.aJ)).ap[m]? = some { x with Out:=x.Out.set p (eo h.au z.aJ) }:=by rw [p9 hx];exact dz hx
 unfold cr
 rw [gL hx hz,qY h1 hz,p9 hx]
 unfold spoilt oR pU eL
 simp only [List.set_set]
theorem CI {row:List D} {mi pi:Int} (h:an) (m:Nat) (x:aO) (p:Nat) (z:aL) (Bj:mi=m) (Fy:pi=p) (hr:row=aq h) (hx:h.ap[m]? = some x) (ov:x.Tables.length=x.aa.length) (hz:x.ai[p]? = some z) (N7:x.Out.length=8) (HA:x.ai.length=8) (q:aj h):
  eA Tryz.prog 294 ⟨true,row⟩ [.one (.ptr ⟨1000001,[],0⟩),I mi,I pi] (zF (aq (cr h m p)) (.lp [])):=by
 subst hr Bj Fy
 have:Q (aj h):=⟨q⟩
 rw [← QI hx hz]
 exact M3 h m x p z hx ov hz N7 HA
theorem dU (hh:dL h=true) (hx:h.ap[m]? = some x):eO x=true:=by
 simp only [dL,Bool.and_eq_true] at hh
 exact List.all_eq_true.1 hh.1.2 x (List.mem_of_getElem? hx)
theorem qZ {m p:Int} (hp:dG h m p=false):iU h m p=none:=by unfold iU;rw [hp];rfl
theorem vP {m p:Int} (hx:h.ap[m.toNat]? = some x) (hz:x.ai[p.toNat]? = some z) (h1:z.aJ= -1):iU h m p=none:=by
 unfold iU
 rw [gL hx hz,decide_eq_false (by simp [h1]),Bool.and_false]
 rfl
theorem vQ {m p:Int} (hp:dG h m p=true) (hx:h.ap[m.toNat]? = some x) (hz:x.ai[p.toNat]? = some z) (h1:¬ z.aJ= -1):iU h m p=some (cr h m.toNat p.toNat):=by
 unfold iU
 rw [gL hx hz,decide_eq_true h1,hp]
 rfl
theorem Fz (h:an) (m:Int) (p:Int) [Q (aj h)]:aF Tryz.prog 173 [A (aq h),I m,I p] (RG [.a (aq ((iU h m p).getD h)), .c (.v (.bool (iU h m p).isSome))]):=by
 refine aF.w 34 Tryz.func173 fun w g0 hM=> ?_
 have eK:=hM.1.2.1.map
 refine ak (aP h).k ?_
 refine ah (qW h m p).k ?_
 refine aB ?_ ?_ <;> intro OT
 exact (by rw [qZ (by assumption)];rfl)
 have Ax:=eS.1 (by assumption:dG h m p=true)
 obtain ⟨x,hx⟩:∃ x,h.ap[m.toNat]? = some x:=⟨_,List.getElem?_eq_getElem (by omega)⟩
 have hmo:=dB (dU Ax.1 hx)
 obtain ⟨z,hz⟩:∃ z,x.ai[p.toNat]? = some z:=⟨_,List.getElem?_eq_getElem (by omega)⟩
 refine fN hx ?_
 first|refine cA ?_|refine aI (by assumption) ?_|refine rA (fun z1 Xc Xd Xe=> ?_)|skip
 first|refine cA ?_|refine aI (by assumption) ?_|refine rA (fun z2 YD qz2 lz2=> ?_)|skip
 refine fN hz ?_
 first|refine cA ?_|refine aI (by assumption) ?_|refine rA (fun z3 hz3 qz3 lz3=> ?_)|skip
 first|refine cA ?_|refine aI (by assumption) ?_|refine rA (fun z4 hz4 qz4 lz4=> ?_)|skip
 refine aB ?_ ?_ <;> intro hb
 exact (by first|(rw [qZ (by assumption)];rfl)|(rw [vP hx hz (by omega)];rfl))
 refine oI 8 (CI (mi:=m) (pi:=p) h m.toNat x p.toNat z (by omega) (by omega) rfl hx hmo.2.2.1 hz hmo.2.2.2.1 hmo.1 (by assumption:Q (aj h)).h) ?_
 exact (by rw [vQ (by assumption) hx hz (by omega)];rfl)
end
section
variable {k m p:Nat} {h:an} {x:aO} {s z:aL}
set_option maxRecDepth 100000
set_option maxHeartbeats 8000000
def iC (h:an) (m:Nat) (x:aO) (p:Nat) (z s:aL):an:=
 {h with ap:=h.ap.set m { x with Tables:=eL x p,ai:=x.ai.set p s },Buffer:=if z.aJ= -1 then h.Buffer else cV h.Buffer z.aJ,aC:=if z.aJ= -1 then h.aC else cV h.aC z.aJ }
theorem BS (ov:x.Tables.length=x.aa.length) (hk:k=x.aa.length) (hs:z.aJ= -1):
  aq (iC h m x p z s)=[.sl 1 (h.au.map aN), .sl 9 ((((h.ap.set m (c6 x p k)).map bh).set m (.st [.sl 2 (((c6 x p k).ai.map aQ).set p (.st [.v (.int .i64 s.aJ), .v (.int .i64 s.aT)])), .sl 1 ((c6 x p k).Out.map aN), .sl 1 ((c6 x p k).a_.map bz), .sl 15 ((c6 x p k).aa.map aY), .sl 1 ((c6 x p k).bX.map bH), .v (.int .i64 (c6 x p k).ax), .v (.int .i64 (c6 x p k).bq), .sl 2 ((c6 x p k).Tables.map bS), .v (.int .i64 (c6 x p k).Own)])).set m (.st [.sl 2 (((c6 x p k).ai.map aQ).set p (.st [.v (.int .i64 s.aJ), .v (.int .i64 s.aT)])), .sl 1 ((c6 x p k).Out.map aN), .sl 1 ((c6 x p k).a_.map bz), .sl 15 ((c6 x p k).aa.map aY), .sl 1 ((c6 x p k).bX.map bH), .v (.int .i64 x.ax), .v (.int .i64 x.bq), .sl 2 ((c6 x p k).Tables.map bS), .v (.int .i64 x.Own)])), .sl 4 (h.Buffer.map aA), .sl 4 (h.aC.map aA)]:=by
 have e:bh { x with Tables:=eL x p,ai:=x.ai.set p s }= .st [.sl 2 (((c6 x p k).ai.map aQ).set p (.st [.v (.int .i64 s.aJ), .v (.int .i64 s.aT)])), .sl 1 ((c6 x p k).Out.map aN), .sl 1 ((c6 x p k).a_.map bz), .sl 15 ((c6 x p k).aa.map aY), .sl 1 ((c6 x p k).bX.map bH), .v (.int .i64 x.ax), .v (.int .i64 x.bq), .sl 2 ((c6 x p k).Tables.map bS), .v (.int .i64 x.Own)]:=by
  unfold c6
  rw [uc ov hk]
  show D.st [.sl 2 ((x.ai.set p s).map aQ),_,_,_,_,_,_,_,_]=_
  rw [List.map_set]
 rw [List.set_set, ← e, ← List.map_set,List.set_set]
 unfold iC
 rw [if_pos hs,if_pos hs]
theorem Jd (ov:x.Tables.length=x.aa.length) (hk:k=x.aa.length) (hs:¬ z.aJ= -1):
  aq (iC h m x p z s)=[.sl 1 (h.au.map aN), .sl 9 ((((h.ap.set m (c6 x p k)).map bh).set m (.st [.sl 2 (((c6 x p k).ai.map aQ).set p (.st [.v (.int .i64 s.aJ), .v (.int .i64 s.aT)])), .sl 1 ((c6 x p k).Out.map aN), .sl 1 ((c6 x p k).a_.map bz), .sl 15 ((c6 x p k).aa.map aY), .sl 1 ((c6 x p k).bX.map bH), .v (.int .i64 (c6 x p k).ax), .v (.int .i64 (c6 x p k).bq), .sl 2 ((c6 x p k).Tables.map bS), .v (.int .i64 (c6 x p k).Own)])).set m (.st [.sl 2 (((c6 x p k).ai.map aQ).set p (.st [.v (.int .i64 s.aJ), .v (.int .i64 s.aT)])), .sl 1 ((c6 x p k).Out.map aN), .sl 1 ((c6 x p k).a_.map bz), .sl 15 ((c6 x p k).aa.map aY), .sl 1 ((c6 x p k).bX.map bH), .v (.int .i64 x.ax), .v (.int .i64 x.bq), .sl 2 ((c6 x p k).Tables.map bS), .v (.int .i64 x.Own)])), .sl 4 ((cV h.Buffer z.aJ).map aA), .sl 4 ((cV h.aC z.aJ).map aA)]:=by
 have e:bh { x with Tables:=eL x p,ai:=x.ai.set p s }= .st [.sl 2 (((c6 x p k).ai.map aQ).set p (.st [.v (.int .i64 s.aJ), .v (.int .i64 s.aT)])), .sl 1 ((c6 x p k).Out.map aN), .sl 1 ((c6 x p k).a_.map bz), .sl 15 ((c6 x p k).aa.map aY), .sl 1 ((c6 x p k).bX.map bH), .v (.int .i64 x.ax), .v (.int .i64 x.bq), .sl 2 ((c6 x p k).Tables.map bS), .v (.int .i64 x.Own)]:=by
  unfold c6
  rw [uc ov hk]
  show D.st [.sl 2 ((x.ai.set p s).map aQ),_,_,_,_,_,_,_,_]=_
  rw [List.map_set]
 rw [List.set_set, ← e, ← List.map_set,List.set_set]
 unfold iC
 rw [if_neg hs,if_neg hs]
theorem FA (h:an) (m:Nat) (x:aO) (p:Nat) (z s:aL) (hx:h.ap[m]? = some x) (ov:x.Tables.length=x.aa.length) (hz:x.ai[p]? = some z) [Q (aj h)]:lO Tryz.prog 331 (aq h) [.one (.agg [.ref ⟨1000000,[],0⟩, .ref ⟨1000000,[],1⟩, .ref ⟨1000000,[],2⟩, .ref ⟨1000000,[],3⟩]),I m,I p,A (gB s)] (RG [.a (aq (iC h m x p z s))]):=by
 refine lO.w 70 Tryz.func331 fun w g0 _=> ?_
 have qx:Q (bf x):=⟨j6.h x (List.mem_of_getElem? hx)⟩
 have hml:=(List.getElem?_eq_some_iff.1 hx).1
 have oF:=(List.getElem?_eq_some_iff.1 hz).1
 have mF:m < (h.ap.map bh).length:=by rw [List.length_map];exact hml
 have y7:p < (x.ai.map aQ).length:=by rw [List.length_map];exact oF
 have O2:=(inferInstance:dc x.aa 1048576).h
 refine cS ?_
 refine aI (by assumption) ?_
 refine aI (by assumption) ?_
 refine cS ?_
 refine aI (by assumption) ?_
 refine aI (by assumption) ?_
 refine cI [1,2,4,7,8,9,10] [] [1000000] (fun (k:Nat)=>[.set 11 (I k)]) (fun (k:Nat)=>[(1000000,⟨false,[.own (.sl 1 (h.au.map aN)), .own (.sl 9 (((h.ap.set m (c6 x p k)).map bh))), .own (.sl 4 (h.Buffer.map aA)), .own (.sl 4 (h.aC.map aA))]⟩)]) (fun (k:Nat)=>k ≤ x.aa.length) (fun (k:Nat)=>x.aa.length - k) (0) (Nat.zero_le _) ?_
 refine ⟨(hda (by repeat' first|exact rfl|refine And.intro ?_ ?_|exact True.intro|(refine eV ?_;rw [BP,Fv hx];done))),fun k hyp N1 bw=> ?_⟩
 have hyp:k ≤ x.aa.length:=hyp
 have hm:=dz (y:=c6 x p k) hx
 have LG:(c6 x p k).Tables.length=x.aa.length:=y5 (p:=p) ov hyp
 have hgk:(c6 x p k).aa.length=x.aa.length:=rfl
 have hko:(c6 x p k).ai.length=x.ai.length:=rfl
 have hzk:(c6 x p k).ai[p]? = some z:=hz
 have hko2:p < ((c6 x p k).ai.map aQ).length:=by rw [List.length_map];exact oF
 have hml3:m < ((h.ap.set m (c6 x p k)).map bh).length:=by rw [List.length_map,List.length_set];exact hml
 refine aI (by assumption) ?_
 refine len ?_
 refine aB ?_ ?_ <;> intro hb
 ·obtain ⟨t,ht⟩:∃ t,x.Tables[k]? = some t:=⟨_,List.getElem?_eq_getElem (by omega)⟩
  obtain ⟨g,hg⟩:∃ g,x.aa[k]? = some g:=⟨_,List.getElem?_eq_getElem (by omega)⟩
  have htk:(c6 x p k).Tables[k]? = some t:=y6 ov ht
  have hgk2:(c6 x p k).aa[k]? = some g:=hg
  have qt:Q (de t):=⟨j6.h t (List.mem_of_getElem? ht)⟩
  have qg:Q (aG g):=⟨j6.h g (List.mem_of_getElem? hg)⟩
  refine cJ [17] [(0,0),(1,0),(2,0),(3,0),(4,0),(5,0),(6,0),(7,0),(8,0),(9,0),(10,0),(11,0),(12,0),(13,0),(14,0),(15,1),(16,0),(17,1)] ?_
  refine aI (by assumption) ?_
  refine cS ?_
  refine aI (by assumption) ?_
  refine aI (by assumption) ?_
  refine aI (by assumption) ?_
  refine cS ?_
  refine aI (by assumption) ?_
  refine aI (by assumption) ?_
  refine ak (rO t g.Live p).k ?_ (by repeat first|exact rfl|refine eB.mk (by exact WD.w) ?_|refine aI (by assumption) ?_)
  refine aI (by assumption) ?_
  refine cS ?_
  refine aI (by assumption) ?_
  refine aI (by assumption) ?_
  refine cD ?_
  refine bw _ _ _ ?_
  refine iF (k + 1) (by omega) (by repeat' first|exact rfl|refine And.intro ?_ ?_|exact True.intro|(refine eV ?_;rw [BQ ov ht hg];done))
 ·refine bw _ _ _ ?_
  refine aB ?_ ?_ <;> intro gY
  ·refine bk (k7 _ z.aJ).k ?_
   refine bk (k7 _ z.aJ).k ?_
   refine aI (by assumption) ?_
   refine cS ?_
   refine aI (by assumption) ?_
   refine aI (by assumption) ?_
   refine cS ?_
   refine cA ?_
   repeat refine slf ?_
   exact (by rw [Jd (k:=k) ov (by omega) (by omega)];rfl)
  ·refine aI (by assumption) ?_
   refine cS ?_
   refine aI (by assumption) ?_
   refine aI (by assumption) ?_
   refine cS ?_
   refine cA ?_
   repeat refine slf ?_
   exact (by rw [BS (k:=k) ov (by omega) (by omega)];rfl)
end
section
variable {m p:Nat} {h:an} {x:aO} {z:aL}
set_option maxRecDepth 100000
set_option maxHeartbeats 8000000
def ud (h:an) (x:aO) (p:Nat) (z:aL):aO:={ x with Out:=x.Out.set p (eo h.au z.aJ) }
def xh (h:an) (m:Nat) (x:aO) (p:Nat) (z:aL):an:={ h with ap:=h.ap.set m (ud h x p z) }
abbrev KF (h:an) (m:Nat) (x:aO) (p:Nat) (z:aL):List D:=[.sl 1 (h.au.map aN), .sl 9 ((h.ap.map bh).set m (.st [.sl 2 (x.ai.map aQ), .sl 1 ((x.Out.map aN).set p (.sl 1 ((eo h.au z.aJ).map bH))), .sl 1 (x.a_.map bz), .sl 15 (x.aa.map aY), .sl 1 (x.bX.map bH), .v (.int .i64 x.ax), .v (.int .i64 x.bq), .sl 2 (x.Tables.map bS), .v (.int .i64 x.Own)])), .sl 4 (h.Buffer.map aA), .sl 4 (h.aC.map aA)]
theorem Je (h:an) (m:Nat) (x:aO) (p:Nat) (z:aL):KF h m x p z=aq (xh h m x p z):=by
 have e:bh (ud h x p z)= .st [.sl 2 (x.ai.map aQ), .sl 1 ((x.Out.map aN).set p (.sl 1 ((eo h.au z.aJ).map bH))), .sl 1 (x.a_.map bz), .sl 15 (x.aa.map aY), .sl 1 (x.bX.map bH), .v (.int .i64 x.ax), .v (.int .i64 x.bq), .sl 2 (x.Tables.map bS), .v (.int .i64 x.Own)]:=by
  show D.st [_, .sl 1 ((x.Out.set p (eo h.au z.aJ)).map aN),_,_,_,_,_,_,_]=_
  rw [List.map_set]
  rfl
 unfold KF xh
 show _=[_,D.sl 9 ((h.ap.set m (ud h x p z)).map bh),_,_]
 rw [List.map_set,e]
theorem Jf (hh:aj h) (hx:bf x):bf (ud h x p z):=by
 refine ⟨hx.1,⟨by show (x.Out.set _ _).length ≤ _;rw [List.length_set];exact hx.2.1.1,fun y hy=> ?_⟩,hx.2.2⟩
 rcases List.mem_or_eq_of_mem_set hy with hy|rfl
 exact hx.2.1.2 y hy
 exact M2 hh.1 _
theorem FB (hh:aj h) (hx:bf x):aj (xh h m x p z):=by
 refine ⟨hh.1,⟨by show (h.ap.set _ _).length ≤ _;rw [List.length_set];exact hh.2.1.1,fun y hy=> ?_⟩,hh.2.2⟩
 rcases List.mem_or_eq_of_mem_set hy with hy|rfl
 exact hh.2.1.2 y hy
 exact Jf hh hx
theorem KG (hx:h.ap[m]? = some x) (hz:x.ai[p]? = some z):iC (xh h m x p z) m (ud h x p z) p z bu=cr h m p:=by
 have h1:(vA h m p (eo h.au z.aJ)).ap[m]? = some { x with Out:=x.Out.set p (eo h.au z.aJ) }:=by rw [p9 hx];exact dz hx
 unfold cr
 rw [gL hx hz,qY h1 hz,p9 hx]
 rfl
theorem jA {row:List D} (h:an) (m:Nat) (x:aO) (p:Nat) (z s:aL) (hr:row=aq h) (hx:h.ap[m]? = some x) (ov:x.Tables.length=x.aa.length) (hz:x.ai[p]? = some z) (q:aj h):
  lO Tryz.prog 331 row [.one (.agg [.ref ⟨1000000,[],0⟩, .ref ⟨1000000,[],1⟩, .ref ⟨1000000,[],2⟩, .ref ⟨1000000,[],3⟩]),I m,I p,A (gB s)] (RG [.a (aq (iC h m x p z s))]):=by
 subst hr
 have:Q (aj h):=⟨q⟩
 exact FA h m x p z s hx ov hz
theorem yo (h:an) (m:Nat) (x:aO) (p:Nat) (z:aL) (hx:h.ap[m]? = some x) (ov:x.Tables.length=x.aa.length) (hz:x.ai[p]? = some z) (N7:x.Out.length=8) (HA:x.ai.length=8) [Q (aj h)]:lO Tryz.prog 431 (aq h) [.one (.agg [.ref ⟨1000000,[],0⟩, .ref ⟨1000000,[],1⟩, .ref ⟨1000000,[],2⟩, .ref ⟨1000000,[],3⟩]),I m,I p] (RG [.a (aq (cr h m p))]):=by
 refine lO.w 33 Tryz.func431 fun w g0 _=> ?_
 rw [← KG hx hz]
 have qx:Q (bf x):=⟨j6.h x (List.mem_of_getElem? hx)⟩
 have hml:=(List.getElem?_eq_some_iff.1 hx).1
 have oF:=(List.getElem?_eq_some_iff.1 hz).1
 have mF:m < (h.ap.map bh).length:=by rw [List.length_map];exact hml
 have y7:p < (x.ai.map aQ).length:=by rw [List.length_map];exact oF
 obtain ⟨y,hy⟩:∃ y,x.Out[p]? = some y:=⟨_,List.getElem?_eq_getElem (by omega)⟩
 refine cJ [21] [(0,0),(1,0),(2,0),(3,0),(4,0),(5,0),(6,0),(7,0),(8,0),(9,0),(10,0),(11,0),(12,0),(13,0),(14,0),(15,0),(16,0),(17,0),(18,0),(19,1),(20,0),(21,1)] ?_
 first|refine fN (by assumption) ?_|refine cS ?_
 first|refine cA ?_|refine aI (by assumption) ?_
 first|refine fN (by assumption) ?_|refine cS ?_
 first|refine cA ?_|refine aI (by assumption) ?_
 first|refine cA ?_|refine aI (by assumption) ?_
 first|refine fN (by assumption) ?_|refine cS ?_
 first|refine cA ?_|refine aI (by assumption) ?_
 first|refine cA ?_|refine aI (by assumption) ?_
 refine bk (ye _ _).k ?_
 first|refine cA ?_|refine aI (by assumption) ?_
 first|refine fN (by assumption) ?_|refine cS ?_
 first|refine cA ?_|refine aI (by assumption) ?_
 first|refine cA ?_|refine aI (by assumption) ?_
 refine cJ [4,5] [(0,0),(1,0),(2,0),(3,1),(4,1),(5,1)] ?_
 refine ah (cW).k ?_
 refine jr [(1000000,0),(1000000,1),(1000000,2),(1000000,3)] (jA (row:=KF h m x p z) (xh h m x p z) m (ud h x p z) p z bu (Je h m x p z) (dz hx) ov hz (FB (by assumption:Q (aj h)).h qx.h)) ?_
 exact rfl
end
theorem HB {row:List D} {mi pi:Int} (h:an) (m:Nat) (x:aO) (p:Nat) (z:aL) (Bj:mi=m) (Fy:pi=p) (hr:row=aq h) (hx:h.ap[m]? = some x) (ov:x.Tables.length=x.aa.length) (hz:x.ai[p]? = some z) (N7:x.Out.length=8) (HA:x.ai.length=8) (q:aj h):
  lO Tryz.prog 431 row [.one (.agg [.ref ⟨1000000,[],0⟩, .ref ⟨1000000,[],1⟩, .ref ⟨1000000,[],2⟩, .ref ⟨1000000,[],3⟩]),I mi,I pi] (RG [.a (aq (cr h m p))]):=by
 subst hr Bj Fy
 have:Q (aj h):=⟨q⟩
 exact yo h m x p z hx ov hz N7 HA
theorem QJ {h:an} {m:Nat} {x:aO} {p:Nat} {z:aL} (hh:dL h=true) (hx:h.ap[m]? = some x) (hz:x.ai[p]? = some z):z.aJ= -1 ↔ (z.aJ= -1∧z.aT=0):=by
 constructor
 intro e
 rcases (dB (dU hh hx)).2.2.2.2.2 z (List.mem_of_getElem? hz) with rfl|h1
 exact ⟨rfl,rfl⟩
 omega
 intro e;exact e.1
theorem FC (h:an) (m:Int) (p:Int) [Q (aj h)]:aF Tryz.prog 332 [A (aq h),I m,I p] (RG [.a (aq ((iU h m p).getD h)), .c (.v (.bool (iU h m p).isSome))]):=by
 refine aF.w 33 Tryz.func332 fun w g0 hM=> ?_
 have eK:=hM.1.2.1.map
 refine ak (ct h).k ?_
 refine pM ?_
 refine iQ (pT h m p).k ?_
 refine aB ?_ ?_ <;> intro OT
 exact (by rw [qZ (by assumption)];rfl)
 have Ax:=eS.1 (by assumption:dG h m p=true)
 obtain ⟨x,hx⟩:∃ x,h.ap[m.toNat]? = some x:=⟨_,List.getElem?_eq_getElem (by omega)⟩
 have hmo:=dB (dU Ax.1 hx)
 obtain ⟨z,hz⟩:∃ z,x.ai[p.toNat]? = some z:=⟨_,List.getElem?_eq_getElem (by omega)⟩
 have X9:=QJ Ax.1 hx hz
 have RU:bu.aJ= -1:=rfl
 have RW:bu.aT=0:=rfl
 first|refine fN (by assumption) ?_|refine cS ?_|refine aZ ?_
 first|refine cA ?_|refine aI (by assumption) ?_
 first|refine cA ?_|refine aI (by assumption) ?_
 first|refine fN (by assumption) ?_|refine cS ?_|refine aZ ?_
 first|refine cA ?_|refine aI (by assumption) ?_
 first|refine cA ?_|refine aI (by assumption) ?_
 refine iQ (cW).k ?_
 refine RQ ?_
 refine aB ?_ ?_ <;> intro hb
 exact (by first|(rw [qZ (by assumption)];rfl)|(rw [vP hx hz (by omega)];rfl))
 refine jr [(3,0),(3,1),(3,2),(3,3)] (HB (mi:=m) (pi:=p) h m.toNat x p.toNat z (by omega) (by omega) rfl hx hmo.2.2.1 hz hmo.2.2.2.1 hmo.1 (by assumption:Q (aj h)).h) ?_
 exact (by rw [vQ (by assumption) hx hz (by omega)];rfl)
section
variable {p:Int} {h:an} {x:aO}
set_option maxRecDepth 100000
set_option maxHeartbeats 8000000
theorem HC {k:bQ} {t:List aL} (h:de k):de (gR k t p):=xg _ h
theorem QK (h:bf x):rI (eL x p):=by
 refine ⟨by have:=h.2.2.2.2.2.1;simp only [eL,List.length_zipWith];omega,fun y hy=> ?_⟩
 obtain ⟨j,hj⟩:=List.getElem?_of_mem hy
 unfold eL at hj
 rw [List.getElem?_zipWith] at hj
 cases h1:x.Tables[j]? with
 | none=>rw [h1] at hj;simp at hj
 | some t=>
  cases h2:x.aa[j]? with
  | none=>rw [h1,h2] at hj;simp at hj
  | some g=>
   rw [h1,h2] at hj
   simp only [Option.some.injEq] at hj
   rw [← hj]
   exact HC (h.2.2.2.2.2.2 t (List.mem_of_getElem? h1))
theorem Ay {b:List bt} {host:Int} (h:dh b):dh (cV b host):=Nat.le_trans BN h
theorem R1 {m:Nat} {s:aL} (hh:aj h) (hx:bf x):aj (spoilt h m x p s):=by
 refine ⟨hh.1,⟨by show (h.ap.set _ _).length ≤ _;rw [List.length_set];exact hh.2.1.1,fun y hy=> ?_⟩, ?_, ?_⟩
 rcases List.mem_or_eq_of_mem_set hy with hy|rfl
 exact hh.2.1.2 y hy
 exact ⟨hx.1,hx.2.1,hx.2.2.1,hx.2.2.2.1,hx.2.2.2.2.1,QK hx⟩
 show dh (if _ then _ else _)
 split
 exact hh.2.2.1
 exact Ay hh.2.2.1
 show dh (if _ then _ else _)
 split
 exact hh.2.2.2
 exact Ay hh.2.2.2
theorem HD {h:an} {m p:Int}:iU h m p=none ∨ ∃ x z,h.ap[m.toNat]? = some x∧x.ai[p.toNat]? = some z∧iU h m p=some (spoilt (oR h m.toNat x p.toNat z) m.toNat (pU h x p.toNat z) p.toNat z):=by
 cases hp:dG h m p with
 | false=>exact .inl (qZ hp)
 | true=>
  have Ax:=eS.1 hp
  have hx:h.ap[m.toNat]? = some (h.ap[m.toNat]'(by omega)):=List.getElem?_eq_getElem (by omega)
  have hmo:=dB (dU Ax.1 hx)
  have hz:(h.ap[m.toNat]'(by omega)).ai[p.toNat]? = some ((h.ap[m.toNat]'(by omega)).ai[p.toNat]'(by omega)):=List.getElem?_eq_getElem (by omega)
  rcases Decidable.em (((h.ap[m.toNat]'(by omega)).ai[p.toNat]'(by omega)).aJ= -1) with h1|h1
  exact .inl (vP hx hz h1)
  exact .inr ⟨_,_,hx,hz,by rw [QI hx hz];exact vQ hp hx hz h1⟩
theorem FD {m:Int} (hh:aj h):aj ((iU h m p).getD h):=by
 rcases @HD h m p with h1|⟨x,z,hx,hz,h1⟩
 rw [h1];exact hh
 rw [h1]
 have hm:=hh.2.1.2 x (List.mem_of_getElem? hx)
 exact R1 (CH hh hm) (Fw hh hm)
end
end Go.Proofs.YtdliggkohdnipaaGreat.T
