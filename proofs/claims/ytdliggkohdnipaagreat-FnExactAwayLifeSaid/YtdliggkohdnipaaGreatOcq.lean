import Derived.Test.YtdliggkohdnipaaGreatNwq
import Derived.Test.YtdliggkohdnipaaGreatNsq
set_option linter.unusedVariables false
set_option linter.unusedSimpArgs false
namespace Go.Proofs.YtdliggkohdnipaaGreat.T
open Go
section
variable {p:Nat} {h:ap} {x:aV} {z:aQ}
set_option maxRecDepth 100000
set_option maxHeartbeats 8000000
theorem jJ {row:List D} {s:aQ} (h:ap) (m:Nat) (x:aV) (p:Int) (hr:row=aq h) (hx:h.ai[m]? = some x) (p_:x.Tables.length=x.aa.length) (q:aj h):
  eH Tryz.prog 189 ⟨true,row⟩ [.one (.ptr ⟨1000001,[],0⟩),I m,I p,A (iF s)] (zx (aq (spoilt h m x p s)) (.mj [])):=by
 subst hr
 have:Q (aj h):=⟨q⟩
 exact (tu h m x p s hx p_).two
theorem OB {m:List (List Int)} (h:eD m) (n:Int):dP (eZ m n):=by
 unfold eZ m5
 split
 cases hx:m[n.toNat]? with
 | none=>simp [dP]
 | some x=>exact h.2 x (aH hx)
 simp [dP]
def rJ (h:ap) (x:aV) (p:Nat) (z:aQ):aV:={ x with Out:=x.Out.set p (eZ h.au z.aN),ak:=x.ak.set p bE }
def qL (h:ap) (m:Nat) (x:aV) (p:Nat) (z:aQ):ap:={ h with ai:=h.ai.set m (rJ h x p z) }
abbrev Mf (h:ap) (m:Nat) (x:aV) (p:Nat) (z:aQ):List D:=[.sl 1 (h.au.map aP), .sl 9 (((h.ai.map bA).set m (.st [.sl 2 (x.ak.map aT), .sl 1 ((x.Out.map aP).set p (.sl 1 ((eZ h.au z.aN).map bS))), .sl 1 (x.bI.map bO), .sl 15 (x.aa.map bp), .sl 1 (x.cm.map bS), .v (.int .i64 x.av), .v (.int .i64 x.bn), .sl 2 (x.Tables.map cz), .v (.int .i64 x.Own)])).set m (.st [.sl 2 ((x.ak.map aT).set p (.st [.v (.int .i64 bE.aN), .v (.int .i64 bE.bf)])), .sl 1 ((x.Out.map aP).set p (.sl 1 ((eZ h.au z.aN).map bS))), .sl 1 (x.bI.map bO), .sl 15 (x.aa.map bp), .sl 1 (x.cm.map bS), .v (.int .i64 x.av), .v (.int .i64 x.bn), .sl 2 (x.Tables.map cz), .v (.int .i64 x.Own)])), .sl 4 (h.Buffer.map aC), .sl 4 (h.aD.map aC)]
theorem QD (h:ap) (m:Nat) (x:aV) (p:Nat) (z:aQ):Mf h m x p z=aq (qL h m x p z):=by
 have e:bA (rJ h x p z)= .st [.sl 2 ((x.ak.map aT).set p (aT bE)), .sl 1 ((x.Out.map aP).set p (.sl 1 ((eZ h.au z.aN).map bS))), .sl 1 (x.bI.map bO), .sl 15 (x.aa.map bp), .sl 1 (x.cm.map bS), .v (.int .i64 x.av), .v (.int .i64 x.bn), .sl 2 (x.Tables.map cz), .v (.int .i64 x.Own)]:=by
  show D.st [.sl 2 ((x.ak.set p bE).map aT), .sl 1 ((x.Out.set p (eZ h.au z.aN)).map aP),_,_,_,_,_,_,_]=_
  rw [bL,bL]
  rfl
 unfold Mf qL
 rw [cS]
 show _=[_,D.sl 9 ((h.ai.set m (rJ h x p z)).map bA),_,_]
 rw [bL,e]
theorem Hg (hh:aj h) (hx:bt x):bt (rJ h x p z):=by
 refine ⟨by show (x.ak.set _ _).length ≤ _;rw [bD];exact hx.1,⟨by show (x.Out.set _ _).length ≤ _;rw [bD];exact hx.2.1.1,fun y hy=> ?_⟩,hx.2.2⟩
 rcases lN hy with hy|rfl
 exact hx.2.1.2 y hy
 exact OB hh.1 _
theorem D2 {m:Nat} (hh:aj h) (hx:bt x):aj (qL h m x p z):=by
 refine ⟨hh.1,⟨by show (h.ai.set _ _).length ≤ _;rw [bD];exact hh.2.1.1,fun y hy=> ?_⟩,hh.2.2⟩
 rcases lN hy with hy|rfl
 exact hh.2.1.2 y hy
 exact Hg hh hx
theorem OC (h:ap) (m:Nat) (x:aV) (p:Nat) (z:aQ) (hx:h.ai[m]? = some x) (p_:x.Tables.length=x.aa.length) (hz:x.ak[p]? = some z) (PI:x.Out.length=8) (Jk:x.ak.length=8) [Q (aj h)]:eH Tryz.prog 294 (⟨true,aq h⟩) [.one (.ptr ⟨1000001,[],0⟩),I m,I p] (zx (aq (spoilt (qL h m x p z) m (rJ h x p z) p z)) (.mj [])):=by
 refine eH.w 46 Tryz.func294 fun w g0 _=> ?_
 have qx:Q (bt x):=⟨jW.h x (aH hx)⟩
 have hml:=(aM.1 hx).1
 have oQ:=(aM.1 hz).1
 have nW:m < (h.ai.map bA).length:=by rw [aI];exact hml
 have AR:p < (x.ak.map aT).length:=by rw [aI];exact oQ
 obtain ⟨y,hy⟩:∃ y,x.Out[p]? = some y:=⟨_,bg (by omega)⟩
 first|refine dM ‹_› ?_|refine di ?_
 first|refine cJ ?_|refine aL ‹_› ?_
 first|refine cJ ?_|refine aL ‹_› ?_
 first|refine dM ‹_› ?_|refine di ?_
 first|refine cJ ?_|refine aL ‹_› ?_
 first|refine cJ ?_|refine aL ‹_› ?_
 refine cI [13] [(0,0),(1,0),(2,0),(3,0),(4,0),(5,0),(6,0),(7,0),(8,0),(9,0),(10,0),(11,1),(12,0),(13,1)] ?_
 first|refine cJ ?_|refine aL ‹_› ?_
 refine bu (tZ _ _).k ?_
 first|refine cJ ?_|refine aL ‹_› ?_
 first|refine dM ‹_› ?_|refine di ?_
 first|refine cJ ?_|refine aL ‹_› ?_
 first|refine cJ ?_|refine aL ‹_› ?_
 refine cI [7] [(0,0),(1,0),(2,0),(3,0),(4,0),(5,1),(6,0),(7,1)] ?_
 refine cJ ?_
 refine ah (eS).k ?_
 refine cJ ?_
 first|refine dM ‹_› ?_|refine di ?_
 refine cJ ?_
 first|refine cJ ?_|refine aL ‹_› ?_
 refine qD 1000001 (jJ (row:=Mf h m x p z) (qL h m x p z) m (rJ h x p z) p (QD h m x p z) (dS hx) p_ (D2 (by assumption:Q (aj h)).h qx.h)) ?_
 exact ⟨rfl,rfl⟩
end
set_option maxRecDepth 100000
set_option maxHeartbeats 8000000
theorem QE {f:Nat→Bool} {n:Nat} {p:Int} (h:p ∈ dn f n):0 ≤ p∧p < n:=by
 unfold dn at h
 obtain ⟨k,hk,rfl⟩:=j7.1 h
 have:=List.mem_range.1 (List.mem_filter.1 hk).1
 omega
section
variable {m p:Nat} {h:ap} {x:aV} {z:aQ}
set_option maxRecDepth 100000
set_option maxHeartbeats 8000000
theorem lZ (hx:h.ai[m]? = some x):cK h m=x:=by unfold cK;rw [hx];rfl
theorem iv (hx:h.ai[m]? = some x) (hz:x.ak[p]? = some z):pu h m p=z:=by unfold pu;rw [lZ hx,hz];rfl
theorem sK {s:aQ} (hx:h.ai[m]? = some x) (hz:x.ak[p]? = some z):
  tn h m p s={ h with ai:=h.ai.set m { x with Tables:=fm x p,ak:=x.ak.set p s },Buffer:=if z.aN= -1 then h.Buffer else dc h.Buffer z.aN,aD:=if z.aN= -1 then h.aD else dc h.aD z.aN }:=by
 unfold tn
 simp only [lZ hx,iv hx hz]
theorem rT {l:List Int} (hx:h.ai[m]? = some x):xz h m p l={ h with ai:=h.ai.set m { x with Out:=x.Out.set p l } }:=by
 unfold xz fT
 rw [lZ hx]
theorem Sj (hx:h.ai[m]? = some x) (hz:x.ak[p]? = some z):spoilt (qL h m x p z) m (rJ h x p z) p z=cy h m p:=by
 have h1:(xz h m p (eZ h.au z.aN)).ai[m]? = some { x with Out:=x.Out.set p (eZ h.au z.aN) }:=by rw [rT hx];exact dS hx
 unfold cy
 rw [iv hx hz,sK h1 hz,rT hx]
 unfold spoilt qL rJ fm
 simp only [cS]
theorem D3 {row:List D} {mi pi:Int} (h:ap) (m:Nat) (x:aV) (p:Nat) (z:aQ) (CA:mi=m) (Hh:pi=p) (hr:row=aq h) (hx:h.ai[m]? = some x) (p_:x.Tables.length=x.aa.length) (hz:x.ak[p]? = some z) (PI:x.Out.length=8) (Jk:x.ak.length=8) (q:aj h):
  eH Tryz.prog 294 ⟨true,row⟩ [.one (.ptr ⟨1000001,[],0⟩),I mi,I pi] (zx (aq (cy h m p)) (.mj [])):=by
 subst hr CA Hh
 have:Q (aj h):=⟨q⟩
 rw [← Sj hx hz]
 exact OC h m x p z hx p_ hz PI Jk
theorem eE (hh:eu h=true) (hx:h.ai[m]? = some x):fy x=true:=by
 simp only [eu,bh] at hh
 exact eY.1 hh.1.2 x (aH hx)
theorem sL {m p:Int} (hp:ee h m p=false):jj h m p=none:=by unfold jj;rw [hp];rfl
theorem xW {m p:Int} (hx:h.ai[m.toNat]? = some x) (hz:x.ak[p.toNat]? = some z) (h1:z.aN= -1):jj h m p=none:=by
 unfold jj
 rw [iv hx hz,decide_eq_false (by simp [h1]),jt]
 rfl
theorem xX {m p:Int} (hp:ee h m p=true) (hx:h.ai[m.toNat]? = some x) (hz:x.ak[p.toNat]? = some z) (h1:¬ z.aN= -1):jj h m p=some (cy h m.toNat p.toNat):=by
 unfold jj
 rw [iv hx hz,decide_eq_true h1,hp]
 rfl
theorem Hi (h:ap) (m:Int) (p:Int) [Q (aj h)]:aF Tryz.prog 173 [A (aq h),I m,I p] (RG [.a (aq ((jj h m p).getD h)), .c (.v (.bool (jj h m p).isSome))]):=by
 refine aF.w 34 Tryz.func173 fun w g0 hM=> ?_
 have eW:=hM.1.2.1.map
 refine an (aY h).k ?_
 refine ah (sI h m p).k ?_
 refine aB ?_ ?_ <;> intro Py
 exact (by rw [sL ‹_›];rfl)
 have BV:=fD.1 (by assumption:ee h m p=true)
 obtain ⟨x,hx⟩:∃ x,h.ai[m.toNat]? = some x:=⟨_,bg (by omega)⟩
 have hmo:=dZ (eE BV.1 hx)
 obtain ⟨z,hz⟩:∃ z,x.ak[p.toNat]? = some z:=⟨_,bg (by omega)⟩
 refine dM hx ?_
 first|refine cJ ?_|refine aL ‹_› ?_|refine sn (fun z1 XP XQ XR=> ?_)|skip
 first|refine cJ ?_|refine aL ‹_› ?_|refine sn (fun z2 hz2 qz2 lz2=> ?_)|skip
 refine dM hz ?_
 first|refine cJ ?_|refine aL ‹_› ?_|refine sn (fun z3 hz3 qz3 lz3=> ?_)|skip
 first|refine cJ ?_|refine aL ‹_› ?_|refine sn (fun z4 hz4 qz4 lz4=> ?_)|skip
 refine aB ?_ ?_ <;> intro hb
 exact (by first|(rw [sL ‹_›];rfl)|(rw [xW hx hz (by omega)];rfl))
 refine qD 8 (D3 (mi:=m) (pi:=p) h m.toNat x p.toNat z (by omega) (by omega) rfl hx hmo.2.2.1 hz hmo.2.2.2.1 hmo.1 (by assumption:Q (aj h)).h) ?_
 exact (by rw [xX ‹_› hx hz (by omega)];rfl)
end
section
variable {k m p:Nat} {h:ap} {x:aV} {s z:aQ}
set_option maxRecDepth 100000
set_option maxHeartbeats 8000000
def jk (h:ap) (m:Nat) (x:aV) (p:Nat) (z s:aQ):ap:=
 {h with ai:=h.ai.set m { x with Tables:=fm x p,ak:=x.ak.set p s },Buffer:=if z.aN= -1 then h.Buffer else dc h.Buffer z.aN,aD:=if z.aN= -1 then h.aD else dc h.aD z.aN }
theorem C8 (p_:x.Tables.length=x.aa.length) (hk:k=x.aa.length) (hs:z.aN= -1):
  aq (jk h m x p z s)=[.sl 1 (h.au.map aP), .sl 9 ((((h.ai.set m (dy x p k)).map bA).set m (.st [.sl 2 (((dy x p k).ak.map aT).set p (.st [.v (.int .i64 s.aN), .v (.int .i64 s.bf)])), .sl 1 ((dy x p k).Out.map aP), .sl 1 ((dy x p k).bI.map bO), .sl 15 ((dy x p k).aa.map bp), .sl 1 ((dy x p k).cm.map bS), .v (.int .i64 (dy x p k).av), .v (.int .i64 (dy x p k).bn), .sl 2 ((dy x p k).Tables.map cz), .v (.int .i64 (dy x p k).Own)])).set m (.st [.sl 2 (((dy x p k).ak.map aT).set p (.st [.v (.int .i64 s.aN), .v (.int .i64 s.bf)])), .sl 1 ((dy x p k).Out.map aP), .sl 1 ((dy x p k).bI.map bO), .sl 15 ((dy x p k).aa.map bp), .sl 1 ((dy x p k).cm.map bS), .v (.int .i64 x.av), .v (.int .i64 x.bn), .sl 2 ((dy x p k).Tables.map cz), .v (.int .i64 x.Own)])), .sl 4 (h.Buffer.map aC), .sl 4 (h.aD.map aC)]:=by
 have e:bA { x with Tables:=fm x p,ak:=x.ak.set p s }= .st [.sl 2 (((dy x p k).ak.map aT).set p (.st [.v (.int .i64 s.aN), .v (.int .i64 s.bf)])), .sl 1 ((dy x p k).Out.map aP), .sl 1 ((dy x p k).bI.map bO), .sl 15 ((dy x p k).aa.map bp), .sl 1 ((dy x p k).cm.map bS), .v (.int .i64 x.av), .v (.int .i64 x.bn), .sl 2 ((dy x p k).Tables.map cz), .v (.int .i64 x.Own)]:=by
  unfold dy
  rw [vF p_ hk]
  show D.st [.sl 2 ((x.ak.set p s).map aT),_,_,_,_,_,_,_,_]=_
  rw [bL]
 rw [cS, ← e, ← bL,cS]
 unfold jk
 rw [if_pos hs,if_pos hs]
theorem KN (p_:x.Tables.length=x.aa.length) (hk:k=x.aa.length) (hs:¬ z.aN= -1):
  aq (jk h m x p z s)=[.sl 1 (h.au.map aP), .sl 9 ((((h.ai.set m (dy x p k)).map bA).set m (.st [.sl 2 (((dy x p k).ak.map aT).set p (.st [.v (.int .i64 s.aN), .v (.int .i64 s.bf)])), .sl 1 ((dy x p k).Out.map aP), .sl 1 ((dy x p k).bI.map bO), .sl 15 ((dy x p k).aa.map bp), .sl 1 ((dy x p k).cm.map bS), .v (.int .i64 (dy x p k).av), .v (.int .i64 (dy x p k).bn), .sl 2 ((dy x p k).Tables.map cz), .v (.int .i64 (dy x p k).Own)])).set m (.st [.sl 2 (((dy x p k).ak.map aT).set p (.st [.v (.int .i64 s.aN), .v (.int .i64 s.bf)])), .sl 1 ((dy x p k).Out.map aP), .sl 1 ((dy x p k).bI.map bO), .sl 15 ((dy x p k).aa.map bp), .sl 1 ((dy x p k).cm.map bS), .v (.int .i64 x.av), .v (.int .i64 x.bn), .sl 2 ((dy x p k).Tables.map cz), .v (.int .i64 x.Own)])), .sl 4 ((dc h.Buffer z.aN).map aC), .sl 4 ((dc h.aD z.aN).map aC)]:=by
 have e:bA { x with Tables:=fm x p,ak:=x.ak.set p s }= .st [.sl 2 (((dy x p k).ak.map aT).set p (.st [.v (.int .i64 s.aN), .v (.int .i64 s.bf)])), .sl 1 ((dy x p k).Out.map aP), .sl 1 ((dy x p k).bI.map bO), .sl 15 ((dy x p k).aa.map bp), .sl 1 ((dy x p k).cm.map bS), .v (.int .i64 x.av), .v (.int .i64 x.bn), .sl 2 ((dy x p k).Tables.map cz), .v (.int .i64 x.Own)]:=by
  unfold dy
  rw [vF p_ hk]
  show D.st [.sl 2 ((x.ak.set p s).map aT),_,_,_,_,_,_,_,_]=_
  rw [bL]
 rw [cS, ← e, ← bL,cS]
 unfold jk
 rw [if_neg hs,if_neg hs]
theorem Hj (h:ap) (m:Nat) (x:aV) (p:Nat) (z s:aQ) (hx:h.ai[m]? = some x) (p_:x.Tables.length=x.aa.length) (hz:x.ak[p]? = some z) [Q (aj h)]:ng Tryz.prog 331 (aq h) [.one (.agg [.ref ⟨1000000,[],0⟩, .ref ⟨1000000,[],1⟩, .ref ⟨1000000,[],2⟩, .ref ⟨1000000,[],3⟩]),I m,I p,A (iF s)] (RG [.a (aq (jk h m x p z s))]):=by
 refine ng.w 70 Tryz.func331 fun w g0 _=> ?_
 have qx:Q (bt x):=⟨jW.h x (aH hx)⟩
 have hml:=(aM.1 hx).1
 have oQ:=(aM.1 hz).1
 have nW:m < (h.ai.map bA).length:=by rw [aI];exact hml
 have AR:p < (x.ak.map aT).length:=by rw [aI];exact oQ
 have QC:=(inferInstance:cX x.aa 1048576).h
 refine di ?_
 refine aL ‹_› ?_
 refine aL ‹_› ?_
 refine di ?_
 refine aL ‹_› ?_
 refine aL ‹_› ?_
 refine ck [1,2,4,7,8,9,10] [] [1000000] (fun (k:Nat)=>[.set 11 (I k)]) (fun (k:Nat)=>[(1000000,⟨false,[.own (.sl 1 (h.au.map aP)), .own (.sl 9 (((h.ai.set m (dy x p k)).map bA))), .own (.sl 4 (h.Buffer.map aC)), .own (.sl 4 (h.aD.map aC))]⟩)]) (fun (k:Nat)=>k ≤ x.aa.length) (fun (k:Nat)=>x.aa.length - k) (0) (bG _) ?_
 refine ⟨(hda (by repeat' first|exact rfl|constructor|(refine dL ?_;rw [C6,Hf hx];done))),fun k hyp N1 bq=> ?_⟩
 have hyp:k ≤ x.aa.length:=hyp
 have hm:=dS (y:=dy x p k) hx
 have JO:(dy x p k).Tables.length=x.aa.length:=AP (p:=p) p_ hyp
 have hgk:(dy x p k).aa.length=x.aa.length:=rfl
 have hko:(dy x p k).ak.length=x.ak.length:=rfl
 have hzk:(dy x p k).ak[p]? = some z:=hz
 have hko2:p < ((dy x p k).ak.map aT).length:=by rw [aI];exact oQ
 have hml3:m < ((h.ai.set m (dy x p k)).map bA).length:=by rw [aI,bD];exact hml
 refine aL ‹_› ?_
 refine len ?_
 refine aB ?_ ?_ <;> intro hb
 ·obtain ⟨t,ht⟩:∃ t,x.Tables[k]? = some t:=⟨_,bg (by omega)⟩
  obtain ⟨g,hg⟩:∃ g,x.aa[k]? = some g:=⟨_,bg (by omega)⟩
  have htk:(dy x p k).Tables[k]? = some t:=AQ p_ ht
  have hgk2:(dy x p k).aa[k]? = some g:=hg
  have qt:Q (dR t):=⟨jW.h t (aH ht)⟩
  have qg:Q (aJ g):=⟨jW.h g (aH hg)⟩
  refine cI [17] [(0,0),(1,0),(2,0),(3,0),(4,0),(5,0),(6,0),(7,0),(8,0),(9,0),(10,0),(11,0),(12,0),(13,0),(14,0),(15,1),(16,0),(17,1)] ?_
  refine aL ‹_› ?_
  refine di ?_
  refine aL ‹_› ?_
  refine aL ‹_› ?_
  refine aL ‹_› ?_
  refine di ?_
  refine aL ‹_› ?_
  refine aL ‹_› ?_
  refine an (tt t g.Live p).k ?_ (by repeat first|exact rfl|refine fi.mk (by exact WD.w) ?_|refine aL ‹_› ?_)
  refine aL ‹_› ?_
  refine di ?_
  refine aL ‹_› ?_
  refine aL ‹_› ?_
  refine cg ?_
  refine bq _ _ _ ?_
  refine hY (k + 1) (by omega) (by repeat' first|exact rfl|constructor|(refine dL ?_;rw [C7 p_ ht hg];done))
 ·refine bq _ _ _ ?_
  refine aB ?_ ?_ <;> intro iz
  ·refine bu (mL _ z.aN).k ?_
   refine bu (mL _ z.aN).k ?_
   refine aL ‹_› ?_
   refine di ?_
   refine aL ‹_› ?_
   refine aL ‹_› ?_
   refine di ?_
   refine cJ ?_
   repeat refine slf ?_
   exact (by rw [KN (k:=k) p_ (by omega) (by omega)];rfl)
  ·refine aL ‹_› ?_
   refine di ?_
   refine aL ‹_› ?_
   refine aL ‹_› ?_
   refine di ?_
   refine cJ ?_
   repeat refine slf ?_
   exact (by rw [C8 (k:=k) p_ (by omega) (by omega)];rfl)
end
section
variable {m p:Nat} {h:ap} {x:aV} {z:aQ}
set_option maxRecDepth 100000
set_option maxHeartbeats 8000000
def vG (h:ap) (x:aV) (p:Nat) (z:aQ):aV:={ x with Out:=x.Out.set p (eZ h.au z.aN) }
def yY (h:ap) (m:Nat) (x:aV) (p:Nat) (z:aQ):ap:={ h with ai:=h.ai.set m (vG h x p z) }
abbrev Mg (h:ap) (m:Nat) (x:aV) (p:Nat) (z:aQ):List D:=[.sl 1 (h.au.map aP), .sl 9 ((h.ai.map bA).set m (.st [.sl 2 (x.ak.map aT), .sl 1 ((x.Out.map aP).set p (.sl 1 ((eZ h.au z.aN).map bS))), .sl 1 (x.bI.map bO), .sl 15 (x.aa.map bp), .sl 1 (x.cm.map bS), .v (.int .i64 x.av), .v (.int .i64 x.bn), .sl 2 (x.Tables.map cz), .v (.int .i64 x.Own)])), .sl 4 (h.Buffer.map aC), .sl 4 (h.aD.map aC)]
theorem KO (h:ap) (m:Nat) (x:aV) (p:Nat) (z:aQ):Mg h m x p z=aq (yY h m x p z):=by
 have e:bA (vG h x p z)= .st [.sl 2 (x.ak.map aT), .sl 1 ((x.Out.map aP).set p (.sl 1 ((eZ h.au z.aN).map bS))), .sl 1 (x.bI.map bO), .sl 15 (x.aa.map bp), .sl 1 (x.cm.map bS), .v (.int .i64 x.av), .v (.int .i64 x.bn), .sl 2 (x.Tables.map cz), .v (.int .i64 x.Own)]:=by
  show D.st [_, .sl 1 ((x.Out.set p (eZ h.au z.aN)).map aP),_,_,_,_,_,_,_]=_
  rw [bL]
  rfl
 unfold Mg yY
 show _=[_,D.sl 9 ((h.ai.set m (vG h x p z)).map bA),_,_]
 rw [bL,e]
theorem KP (hh:aj h) (hx:bt x):bt (vG h x p z):=by
 refine ⟨hx.1,⟨by show (x.Out.set _ _).length ≤ _;rw [bD];exact hx.2.1.1,fun y hy=> ?_⟩,hx.2.2⟩
 rcases lN hy with hy|rfl
 exact hx.2.1.2 y hy
 exact OB hh.1 _
theorem Hl (hh:aj h) (hx:bt x):aj (yY h m x p z):=by
 refine ⟨hh.1,⟨by show (h.ai.set _ _).length ≤ _;rw [bD];exact hh.2.1.1,fun y hy=> ?_⟩,hh.2.2⟩
 rcases lN hy with hy|rfl
 exact hh.2.1.2 y hy
 exact KP hh hx
theorem Mh (hx:h.ai[m]? = some x) (hz:x.ak[p]? = some z):jk (yY h m x p z) m (vG h x p z) p z bE=cy h m p:=by
 have h1:(xz h m p (eZ h.au z.aN)).ai[m]? = some { x with Out:=x.Out.set p (eZ h.au z.aN) }:=by rw [rT hx];exact dS hx
 unfold cy
 rw [iv hx hz,sK h1 hz,rT hx]
 rfl
theorem kp {row:List D} (h:ap) (m:Nat) (x:aV) (p:Nat) (z s:aQ) (hr:row=aq h) (hx:h.ai[m]? = some x) (p_:x.Tables.length=x.aa.length) (hz:x.ak[p]? = some z) (q:aj h):
  ng Tryz.prog 331 row [.one (.agg [.ref ⟨1000000,[],0⟩, .ref ⟨1000000,[],1⟩, .ref ⟨1000000,[],2⟩, .ref ⟨1000000,[],3⟩]),I m,I p,A (iF s)] (RG [.a (aq (jk h m x p z s))]):=by
 subst hr
 have:Q (aj h):=⟨q⟩
 exact Hj h m x p z s hx p_ hz
theorem Ac (h:ap) (m:Nat) (x:aV) (p:Nat) (z:aQ) (hx:h.ai[m]? = some x) (p_:x.Tables.length=x.aa.length) (hz:x.ak[p]? = some z) (PI:x.Out.length=8) (Jk:x.ak.length=8) [Q (aj h)]:ng Tryz.prog 431 (aq h) [.one (.agg [.ref ⟨1000000,[],0⟩, .ref ⟨1000000,[],1⟩, .ref ⟨1000000,[],2⟩, .ref ⟨1000000,[],3⟩]),I m,I p] (RG [.a (aq (cy h m p))]):=by
 refine ng.w 33 Tryz.func431 fun w g0 _=> ?_
 rw [← Mh hx hz]
 have qx:Q (bt x):=⟨jW.h x (aH hx)⟩
 have hml:=(aM.1 hx).1
 have oQ:=(aM.1 hz).1
 have nW:m < (h.ai.map bA).length:=by rw [aI];exact hml
 have AR:p < (x.ak.map aT).length:=by rw [aI];exact oQ
 obtain ⟨y,hy⟩:∃ y,x.Out[p]? = some y:=⟨_,bg (by omega)⟩
 refine cI [21] [(0,0),(1,0),(2,0),(3,0),(4,0),(5,0),(6,0),(7,0),(8,0),(9,0),(10,0),(11,0),(12,0),(13,0),(14,0),(15,0),(16,0),(17,0),(18,0),(19,1),(20,0),(21,1)] ?_
 first|refine dM ‹_› ?_|refine di ?_
 first|refine cJ ?_|refine aL ‹_› ?_
 first|refine dM ‹_› ?_|refine di ?_
 first|refine cJ ?_|refine aL ‹_› ?_
 first|refine cJ ?_|refine aL ‹_› ?_
 first|refine dM ‹_› ?_|refine di ?_
 first|refine cJ ?_|refine aL ‹_› ?_
 first|refine cJ ?_|refine aL ‹_› ?_
 refine bu (p5 _ _).k ?_
 first|refine cJ ?_|refine aL ‹_› ?_
 first|refine dM ‹_› ?_|refine di ?_
 first|refine cJ ?_|refine aL ‹_› ?_
 first|refine cJ ?_|refine aL ‹_› ?_
 refine cI [4,5] [(0,0),(1,0),(2,0),(3,1),(4,1),(5,1)] ?_
 refine ah (cW).k ?_
 refine kf [(1000000,0),(1000000,1),(1000000,2),(1000000,3)] (kp (row:=Mg h m x p z) (yY h m x p z) m (vG h x p z) p z bE (KO h m x p z) (dS hx) p_ hz (Hl (by assumption:Q (aj h)).h qx.h)) ?_
 exact rfl
end
theorem Jl {row:List D} {mi pi:Int} (h:ap) (m:Nat) (x:aV) (p:Nat) (z:aQ) (CA:mi=m) (Hh:pi=p) (hr:row=aq h) (hx:h.ai[m]? = some x) (p_:x.Tables.length=x.aa.length) (hz:x.ak[p]? = some z) (PI:x.Out.length=8) (Jk:x.ak.length=8) (q:aj h):
  ng Tryz.prog 431 row [.one (.agg [.ref ⟨1000000,[],0⟩, .ref ⟨1000000,[],1⟩, .ref ⟨1000000,[],2⟩, .ref ⟨1000000,[],3⟩]),I mi,I pi] (RG [.a (aq (cy h m p))]):=by
 subst hr CA Hh
 have:Q (aj h):=⟨q⟩
 exact Ac h m x p z hx p_ hz PI Jk
theorem Sk {h:ap} {m:Nat} {x:aV} {p:Nat} {z:aQ} (hh:eu h=true) (hx:h.ai[m]? = some x) (hz:x.ak[p]? = some z):z.aN= -1 ↔ (z.aN= -1∧z.bf=0):=by
 constructor
 intro e
 rcases (dZ (eE hh hx)).2.2.2.2.2 z (aH hz) with rfl|h1
 exact ⟨rfl,rfl⟩
 omega
 intro e;exact e.1
theorem Ho (h:ap) (m:Int) (p:Int) [Q (aj h)]:aF Tryz.prog 332 [A (aq h),I m,I p] (RG [.a (aq ((jj h m p).getD h)), .c (.v (.bool (jj h m p).isSome))]):=by
 refine aF.w 33 Tryz.func332 fun w g0 hM=> ?_
 have eW:=hM.1.2.1.map
 refine an (cF h).k ?_
 refine o_ ?_
 refine iL (rI h m p).k ?_
 refine aB ?_ ?_ <;> intro Py
 exact (by rw [sL ‹_›];rfl)
 have BV:=fD.1 (by assumption:ee h m p=true)
 obtain ⟨x,hx⟩:∃ x,h.ai[m.toNat]? = some x:=⟨_,bg (by omega)⟩
 have hmo:=dZ (eE BV.1 hx)
 obtain ⟨z,hz⟩:∃ z,x.ak[p.toNat]? = some z:=⟨_,bg (by omega)⟩
 have XW:=Sk BV.1 hx hz
 have TG:bE.aN= -1:=rfl
 have TH:bE.bf=0:=rfl
 first|refine dM ‹_› ?_|refine di ?_|refine bl ?_
 first|refine cJ ?_|refine aL ‹_› ?_
 first|refine cJ ?_|refine aL ‹_› ?_
 first|refine dM ‹_› ?_|refine di ?_|refine bl ?_
 first|refine cJ ?_|refine aL ‹_› ?_
 first|refine cJ ?_|refine aL ‹_› ?_
 refine iL (cW).k ?_
 refine Tw ?_
 refine aB ?_ ?_ <;> intro hb
 exact (by first|(rw [sL ‹_›];rfl)|(rw [xW hx hz (by omega)];rfl))
 refine kf [(3,0),(3,1),(3,2),(3,3)] (Jl (mi:=m) (pi:=p) h m.toNat x p.toNat z (by omega) (by omega) rfl hx hmo.2.2.1 hz hmo.2.2.2.1 hmo.1 (by assumption:Q (aj h)).h) ?_
 exact (by rw [xX ‹_› hx hz (by omega)];rfl)
section
variable {p:Int} {h:ap} {x:aV}
set_option maxRecDepth 100000
set_option maxHeartbeats 8000000
theorem Jm {k:cE} {t:List aQ} (h:dR k):dR (iB k t p):=yX _ h
theorem Sl (h:bt x):tf (fm x p):=by
 refine ⟨by have:=h.2.2.2.2.2.1;simp only [fm,List.length_zipWith];omega,fun y hy=> ?_⟩
 obtain ⟨j,hj⟩:=List.getElem?_of_mem hy
 unfold fm at hj
 rw [List.getElem?_zipWith] at hj
 cases h1:x.Tables[j]? with
 | none=>rw [h1] at hj;simp at hj
 | some t=>
  cases h2:x.aa[j]? with
  | none=>rw [h1,h2] at hj;simp at hj
  | some g=>
   rw [h1,h2] at hj
   simp only [ea] at hj
   rw [← hj]
   exact Jm (h.2.2.2.2.2.2 t (aH h1))
theorem BW {b:List bP} {host:Int} (h:c4 b):c4 (dc b host):=eP C4 h
theorem TM {m:Nat} {s:aQ} (hh:aj h) (hx:bt x):aj (spoilt h m x p s):=by
 refine ⟨hh.1,⟨by show (h.ai.set _ _).length ≤ _;rw [bD];exact hh.2.1.1,fun y hy=> ?_⟩, ?_, ?_⟩
 rcases lN hy with hy|rfl
 exact hh.2.1.2 y hy
 exact ⟨hx.1,hx.2.1,hx.2.2.1,hx.2.2.2.1,hx.2.2.2.2.1,Sl hx⟩
 show c4 (if _ then _ else _)
 split
 exact hh.2.2.1
 exact BW hh.2.2.1
 show c4 (if _ then _ else _)
 split
 exact hh.2.2.2
 exact BW hh.2.2.2
theorem Jn {h:ap} {m p:Int}:jj h m p=none ∨ ∃ x z,h.ai[m.toNat]? = some x∧x.ak[p.toNat]? = some z∧jj h m p=some (spoilt (qL h m.toNat x p.toNat z) m.toNat (rJ h x p.toNat z) p.toNat z):=by
 cases hp:ee h m p with
 | false=>exact .inl (sL hp)
 | true=>
  have BV:=fD.1 hp
  have hx:h.ai[m.toNat]? = some (h.ai[m.toNat]'(by omega)):=bg (by omega)
  have hmo:=dZ (eE BV.1 hx)
  have hz:(h.ai[m.toNat]'(by omega)).ak[p.toNat]? = some ((h.ai[m.toNat]'(by omega)).ak[p.toNat]'(by omega)):=bg (by omega)
  rcases Decidable.em (((h.ai[m.toNat]'(by omega)).ak[p.toNat]'(by omega)).aN= -1) with h1|h1
  exact .inl (xW hx hz h1)
  exact .inr ⟨_,_,hx,hz,by rw [Sj hx hz];exact xX hp hx hz h1⟩
theorem Hp {m:Int} (hh:aj h):aj ((jj h m p).getD h):=by
 rcases @Jn h m p with h1|⟨x,z,hx,hz,h1⟩
 rw [h1];exact hh
 rw [h1]
 have hm:=hh.2.1.2 x (aH hx)
 exact TM (D2 hh hm) (Hg hh hm)
end
end Go.Proofs.YtdliggkohdnipaaGreat.T
