import Derived.Test.YtdliggkohdnipaaGreatRpr
import Derived.Test.YtdliggkohdnipaaGreatPir
set_option linter.unusedVariables false
set_option linter.unusedSimpArgs false
namespace Go.Proofs.YtdliggkohdnipaaGreat.T
open Go
section
variable {t:Int} {m:List (List Int)} {l y:List Int} {p:Nat} {h:an} {x:aO} {z:aL}
set_option maxRecDepth 100000
set_option maxHeartbeats 8000000
def uT (x:aO) (p:Nat):aO:={ x with Out:=x.Out.set p [] }
def zj (x:aO) (p:Nat) (t:Int):aO:={ x with Out:=x.Out.set p [],ai:=x.ai.set p ⟨t,3⟩ }
def um (h:an) (m:Nat) (x:aO) (p:Nat) (y:List Int) (t:Int):an:={ h with au:=eW h.au t y,ap:=h.ap.set m (uT x p) }
def uo (h:an) (m:Nat) (x:aO) (p:Nat) (y:List Int) (t:Int):an:={ h with au:=eW h.au t y,ap:=h.ap.set m (zj x p t) }
abbrev Jg (h:an) (m:Nat) (x:aO) (p:Nat) (y:List Int) (t:Int):List D:=[.sl 1 ((eW h.au t y).map aN), .sl 9 ((h.ap.map bh).set m (.st [.sl 2 (x.ai.map aQ), .sl 1 ((x.Out.map aN).set p (.sl 1 [])), .sl 1 (x.a_.map bz), .sl 15 (x.aa.map aY), .sl 1 (x.bX.map bH), .v (.int .i64 x.ax), .v (.int .i64 x.bq), .sl 2 (x.Tables.map bS), .v (.int .i64 x.Own)])), .sl 4 (h.Buffer.map aA), .sl 4 (h.aC.map aA)]
abbrev K1 (h:an) (m:Nat) (x:aO) (p:Nat) (y:List Int) (t:Int):List D:=[.sl 1 ((eW h.au t y).map aN), .sl 9 (((h.ap.map bh).set m (.st [.sl 2 (x.ai.map aQ), .sl 1 ((x.Out.map aN).set p (.sl 1 [])), .sl 1 (x.a_.map bz), .sl 15 (x.aa.map aY), .sl 1 (x.bX.map bH), .v (.int .i64 x.ax), .v (.int .i64 x.bq), .sl 2 (x.Tables.map bS), .v (.int .i64 x.Own)])).set m (.st [.sl 2 ((x.ai.map aQ).set p (.st [.v (.int .i64 t), .v (.int .i64 3)])), .sl 1 ((x.Out.map aN).set p (.sl 1 [])), .sl 1 (x.a_.map bz), .sl 15 (x.aa.map aY), .sl 1 (x.bX.map bH), .v (.int .i64 x.ax), .v (.int .i64 x.bq), .sl 2 (x.Tables.map bS), .v (.int .i64 x.Own)])), .sl 4 (h.Buffer.map aA), .sl 4 (h.aC.map aA)]
theorem AN (h:an) (m:Nat) (x:aO) (p:Nat) (y:List Int) (t:Int):Jg h m x p y t=aq (um h m x p y t):=by
 have e:bh (uT x p)= .st [.sl 2 (x.ai.map aQ), .sl 1 ((x.Out.map aN).set p (.sl 1 [])), .sl 1 (x.a_.map bz), .sl 15 (x.aa.map aY), .sl 1 (x.bX.map bH), .v (.int .i64 x.ax), .v (.int .i64 x.bq), .sl 2 (x.Tables.map bS), .v (.int .i64 x.Own)]:=by
  show D.st [_, .sl 1 ((x.Out.set p []).map aN),_,_,_,_,_,_,_]=_
  rw [List.map_set]
  rfl
 unfold Jg um
 show _=[_,D.sl 9 ((h.ap.set m (uT x p)).map bh),_,_]
 rw [List.map_set,e]
theorem Jh (h:an) (m:Nat) (x:aO) (p:Nat) (y:List Int) (t:Int):K1 h m x p y t=aq (uo h m x p y t):=by
 have e:bh (zj x p t)= .st [.sl 2 ((x.ai.map aQ).set p (.st [.v (.int .i64 t), .v (.int .i64 3)])), .sl 1 ((x.Out.map aN).set p (.sl 1 [])), .sl 1 (x.a_.map bz), .sl 15 (x.aa.map aY), .sl 1 (x.bX.map bH), .v (.int .i64 x.ax), .v (.int .i64 x.bq), .sl 2 (x.Tables.map bS), .v (.int .i64 x.Own)]:=by
  show D.st [.sl 2 ((x.ai.set p ⟨t,3⟩).map aQ), .sl 1 ((x.Out.set p []).map aN),_,_,_,_,_,_,_]=_
  rw [List.map_set,List.map_set]
  rfl
 unfold K1 uo
 rw [List.set_set]
 show _=[_,D.sl 9 ((h.ap.set m (zj x p t)).map bh),_,_]
 rw [List.map_set,e]
theorem Nj {p:Int} (hm:dY m) (hy:c4 y):dY (eW m p y):=by
 unfold eW
 split
 unfold put
 split
 refine ⟨by rw [List.length_set];exact hm.1,fun c hc=> ?_⟩
 rcases List.mem_or_eq_of_mem_set hc with hc|rfl
 exact hm.2 c hc
 exact hy
 exact hm
 exact hm
theorem K3 {p:Int}:(eW m p y).length=m.length:=by
 unfold eW
 split
 unfold put
 split
 rw [List.length_set]
 rfl
 rfl
theorem F2 (hx:bf x):bf (uT x p):=by
 refine ⟨hx.1,⟨by show (x.Out.set _ _).length ≤ _;rw [List.length_set];exact hx.2.1.1,fun c hc=> ?_⟩,hx.2.2⟩
 rcases List.mem_or_eq_of_mem_set hc with hc|rfl
 exact hx.2.1.2 c hc
 simp [c4]
theorem R5 (hx:bf x):bf (zj x p t):=⟨by show (x.ai.set _ _).length ≤ _;rw [List.length_set];exact hx.1,(F2 (p:=p) hx).2⟩
theorem Ji (hx:Xm x):Xm (uT x p):=⟨hx.1,by show (x.Out.set _ _).length=8;rw [List.length_set];exact hx.2.1,hx.2.2⟩
theorem QV {p:Int} (hh:nD h) (hy:c4 y):nD { h with au:=eW h.au p y }:=⟨⟨Nj hh.1.1 hy,hh.1.2⟩,by show (eW _ _ _).length=12;rw [K3];exact hh.2.1,hh.2.2⟩
theorem q8 {m:Nat} (hh:nD h) (hx:h.ap[m]? = some x) (hy:c4 y):nD (um h m x p y t):=D1 (QV hh hy) (F2 (hh.sm hx)) (Ji (hh.cE hx))
theorem F3 {m:Nat} (hh:nD h) (hx:h.ap[m]? = some x) (hy:c4 y):aj (uo h m x p y t):=mj (h:={ h with au:=eW h.au t y }) (QV hh hy).1 (R5 (hh.sm hx))
theorem rT {m:Nat} (hr:Room h m p x z t l) (hy:x.Out[p]? = some y):yR h m p=iC (um h m x p y t) m (uT x p) p z ⟨t,3⟩:=by
 have h1:(vA { h with au:=eW h.au t y } m p []).ap[m]? = some (uT x p):=by
  rw [p9 (x:=x) (by exact hr.hx)]
  exact dz hr.hx
 unfold yR
 rw [kM hr.hx,hy,hr.hf]
 show tU (vA { h with au:=eW h.au t y } m p []) m p ⟨t,3⟩=_
 rw [qY h1 (show (uT x p).ai[p]? = some z from hr.hz),p9 (x:=x) (by exact hr.hx)]
 rfl
theorem Nk {m:Nat} (hr:Room h m p x z t l) (hy:x.Out[p]? = some y):yR h m p=spoilt (uo h m x p y t) m (zj x p t) p z:=by
 rw [rT hr hy]
 unfold iC um spoilt uo
 simp only [List.set_set]
 rfl
theorem tg {m:Nat} (hs:nD h) (ha:jE h) (hx:h.ap[m]? = some x) (hz:x.ai[p]? = some z) (h1:z.aJ= -1):nD (cw h m p):=by
 obtain ⟨x1,t,l,hr,CN⟩:=xl hs ha hx hz h1
 have h8:=(hr.hs.cE hr.hx).2.1
 have hp:p < 8:=by have:=(List.getElem?_eq_some_iff.1 hr.hz).1;have:=(hr.hs.cE hr.hx).1;omega
 obtain ⟨y,hy⟩:∃ y,x1.Out[p]? = some y:=⟨_,List.getElem?_eq_getElem (by omega)⟩
 have qy:c4 y:=(hr.hs.sm hr.hx).2.1.2 y (List.mem_of_getElem? hy)
 unfold cw
 rw [rT hr hy]
 exact FT (q8 hr.hs hr.hx qy) (F2 (hr.hs.sm hr.hx)) (Ji (hr.hs.cE hr.hx))
theorem F4 {row:List D} {mi pi:Int} (h:an) (m:Nat) (x:aO) (p:Nat) (z:aL) (Bj:mi=m) (Fy:pi=p) (hr:row=aq h) (hx:h.ap[m]? = some x) (ov:x.Tables.length=x.aa.length) (hz:x.ai[p]? = some z) (N7:x.Out.length=8) (HA:x.ai.length=8) (q:aj h):
  lO Tryz.prog 431 row [.one (.agg [.ref ⟨1000000,[],0⟩, .ref ⟨1000000,[],1⟩, .ref ⟨1000000,[],2⟩, .ref ⟨1000000,[],3⟩]),I mi,I pi] (RG [.a (aq (cr h m p))]):=by
 subst hr Bj Fy
 have:Q (aj h):=⟨q⟩
 exact yo h m x p z hx ov hz N7 HA
theorem BX (h:an) (a b:Nat) (u:aO) (s:aL) (ho:bN h 0=some (a,b)) (hu:h.ap[a]? = some u) (hw:u.ai[b]? = some s) (hs:nD h):eA Tryz.prog 411 (⟨true,aq h⟩) [.one (.ptr ⟨1000001,[],0⟩)] (zF (aq (cr h a b)) (.lp [])):=by
 refine eA.w 15 Tryz.func411 fun w g0 _=> ?_
 have qh:Q (aj h):=hs.q
 have Qz:=hs.cE hu
 refine ak (qX h 0).k ?_
 refine oI 1000001 (CI (mi:=oM (bN h 0)) (pi:=oP (bN h 0)) h a u b s (by rw [ho];rfl) (by rw [ho];rfl) rfl hu Qz.2.2.2 hw Qz.2.1 Qz.1 hs.1) ?_
 exact ⟨rfl,rfl⟩
theorem K4 (h:an) (m:Nat) (x:aO) (p:Nat) (z:aL) (hs:nD h) (ha:jE h) (hx:h.ap[m]? = some x) (hz:x.ai[p]? = some z) (h1:z.aJ= -1):eA Tryz.prog 295 (⟨true,aq h⟩) [.one (.ptr ⟨1000001,[],0⟩),I m,I p] (zF (aq (cw h m p)) (.lp [])):=by
 refine eA.w 72 Tryz.func295 fun w g0 _=> ?_
 have qh:Q (aj h):=hs.q
 obtain ⟨x1,t,l,hr,CN⟩:=xl hs ha hx hz h1
 have hp8:=(List.getElem?_eq_some_iff.1 hz).1
 have jg:=hs.cE hx
 have U1:=jg.1
 have hml0:=(List.getElem?_eq_some_iff.1 hx).1
 have G6:cw h m p=yR (roomFor h) m p:=rfl
 refine bk (sB h).k ?_
 refine len ?_
 refine aB ?_ ?_ <;> intro hb
 ·have hf:eE h=[]:=List.length_eq_zero_iff.1 (by omega)
  obtain ⟨a,b,ho⟩:=xk hs.2.1 hf
  obtain ⟨u,s,hu,hw,OP,Wf⟩:=nW ho
  clear OP Wf
  rw [we hf ho] at hr G6
  have Qz:=hs.cE hu
  refine oI 1000001 (BX h a b u s ho hu hw hs) ?_
  skip
  have qk:Q (aj (cr h a b)):=hr.hs.q
  have hmk:=hr.hs.cE hr.hx
  have F5:=hmk.1
  have U2:=hmk.2.1
  have kQ:=hr.hx
  have sE:=hr.hz
  have ht:=hr.ht
  have JF:(eE (cr h a b))[0]? = some t:=by rw [hr.hf];rfl
  have hfl:0 < (eE (cr h a b)).length:=by rw [hr.hf];exact Nat.succ_pos _
  have qx:Q (bf x1):=⟨hr.hs.sm hr.hx⟩
  obtain ⟨y,hy⟩:∃ y,x1.Out[p]? = some y:=⟨_,List.getElem?_eq_getElem (by omega)⟩
  have qy:Q (c4 y):=⟨j6.h y (List.mem_of_getElem? hy)⟩
  have hml:=(List.getElem?_eq_some_iff.1 kQ).1
  have oF:=(List.getElem?_eq_some_iff.1 sE).1
  have mF:m < ((cr h a b).ap.map bh).length:=by rw [List.length_map];exact hml
  have y7:p < (x1.ai.map aQ).length:=by rw [List.length_map];exact oF
  have Xv:=(List.getElem?_eq_some_iff.1 hy).1
  have hkm:=hr.hs.2.1
  rw [Nk hr hy] at G6
  refine cS ?_
  refine bk (sB (cr h a b)).k ?_
  refine cS (m:=0) ?_ (by rw [List.length_map];exact hfl)
  refine aI (by assumption) ?_
  refine cJ [16] [(0,0),(1,0),(2,0),(3,0),(4,0),(5,0),(6,0),(7,0),(8,0),(9,0),(10,0),(11,0),(12,0),(13,1),(14,0),(15,0),(16,1)] ?_
  refine aI (by assumption) ?_
  refine aI (by assumption) ?_
  refine cS ?_
  refine aI (by assumption) ?_
  refine aI (by assumption) ?_
  refine bk (uJ (cr h a b).au t y).k ?_
  refine aI (by assumption) ?_
  refine aI (by assumption) ?_
  refine cS ?_
  refine aI (by assumption) ?_
  refine aI (by assumption) ?_
  refine cA ?_
  refine cA ?_
  refine cS ?_
  refine cA ?_
  refine aI (by assumption) ?_
  refine cA ?_
  refine cA ?_
  refine cS ?_
  refine cA ?_
  refine aI (by assumption) ?_
  refine oI 1000001 (iY (row:=K1 (cr h a b) m x1 p y t) (uo (cr h a b) m x1 p y t) m (zj x1 p t) p (Jh (cr h a b) m x1 p y t) (dz kQ) hmk.2.2.2 (F3 hr.hs kQ qy.h)) ?_
  exact (by rw [G6];exact ⟨rfl,rfl⟩)
 ·rw [AJ (fun e=>by rw [e] at hb;simp at hb)] at hr G6
  have qk:Q (aj h):=hr.hs.q
  have hmk:=hr.hs.cE hr.hx
  have F5:=hmk.1
  have U2:=hmk.2.1
  have kQ:=hr.hx
  have sE:=hr.hz
  have ht:=hr.ht
  have JF:(eE h)[0]? = some t:=by rw [hr.hf];rfl
  have hfl:0 < (eE h).length:=by rw [hr.hf];exact Nat.succ_pos _
  have qx:Q (bf x1):=⟨hr.hs.sm hr.hx⟩
  obtain ⟨y,hy⟩:∃ y,x1.Out[p]? = some y:=⟨_,List.getElem?_eq_getElem (by omega)⟩
  have qy:Q (c4 y):=⟨j6.h y (List.mem_of_getElem? hy)⟩
  have hml:=(List.getElem?_eq_some_iff.1 kQ).1
  have oF:=(List.getElem?_eq_some_iff.1 sE).1
  have mF:m < (h.ap.map bh).length:=by rw [List.length_map];exact hml
  have y7:p < (x1.ai.map aQ).length:=by rw [List.length_map];exact oF
  have Xv:=(List.getElem?_eq_some_iff.1 hy).1
  have hkm:=hr.hs.2.1
  rw [Nk hr hy] at G6
  refine cS ?_
  refine bk (sB h).k ?_
  refine cS (m:=0) ?_ (by rw [List.length_map];exact hfl)
  refine aI (by assumption) ?_
  refine cJ [16] [(0,0),(1,0),(2,0),(3,0),(4,0),(5,0),(6,0),(7,0),(8,0),(9,0),(10,0),(11,0),(12,0),(13,1),(14,0),(15,0),(16,1)] ?_
  refine aI (by assumption) ?_
  refine aI (by assumption) ?_
  refine cS ?_
  refine aI (by assumption) ?_
  refine aI (by assumption) ?_
  refine bk (uJ h.au t y).k ?_
  refine aI (by assumption) ?_
  refine aI (by assumption) ?_
  refine cS ?_
  refine aI (by assumption) ?_
  refine aI (by assumption) ?_
  refine cA ?_
  refine cA ?_
  refine cS ?_
  refine cA ?_
  refine aI (by assumption) ?_
  refine cA ?_
  refine cA ?_
  refine cS ?_
  refine cA ?_
  refine aI (by assumption) ?_
  refine oI 1000001 (iY (row:=K1 h m x1 p y t) (uo h m x1 p y t) m (zj x1 p t) p (Jh h m x1 p y t) (dz kQ) hmk.2.2.2 (F3 hr.hs kQ qy.h)) ?_
  exact (by rw [G6];exact ⟨rfl,rfl⟩)
theorem K5 (h:an) (m:Nat) (x:aO) (p:Nat) (z:aL) (hs:nD h) (ha:jE h) (hx:h.ap[m]? = some x) (hz:x.ai[p]? = some z) (h1:z.aJ= -1):lO Tryz.prog 432 (aq h) [.one (.agg [.ref ⟨1000000,[],0⟩, .ref ⟨1000000,[],1⟩, .ref ⟨1000000,[],2⟩, .ref ⟨1000000,[],3⟩]),I m,I p] (RG [.a (aq (cw h m p))]):=by
 refine lO.w 56 Tryz.func432 fun w g0 _=> ?_
 have qh:Q (aj h):=hs.q
 obtain ⟨x1,t,l,hr,CN⟩:=xl hs ha hx hz h1
 have hp8:=(List.getElem?_eq_some_iff.1 hz).1
 have jg:=hs.cE hx
 have U1:=jg.1
 have hml0:=(List.getElem?_eq_some_iff.1 hx).1
 have G6:cw h m p=yR (roomFor h) m p:=rfl
 refine bk (kq h).k ?_
 refine len ?_
 refine aB ?_ ?_ <;> intro hb
 ·have hf:eE h=[]:=List.length_eq_zero_iff.1 (by omega)
  obtain ⟨a,b,ho⟩:=xk hs.2.1 hf
  obtain ⟨u,s,hu,hw,OP,Wf⟩:=nW ho
  clear OP Wf
  rw [we hf ho] at hr G6
  have Qz:=hs.cE hu
  refine ak (mE h 0).k ?_
  refine jr [(1000000,0),(1000000,1),(1000000,2),(1000000,3)] (F4 (mi:=oM (bN h 0)) (pi:=oP (bN h 0)) (row:=aq h) h a u b s (by rw [ho];rfl) (by rw [ho];rfl) rfl hu Qz.2.2.2 hw Qz.2.1 Qz.1 hs.1) ?_
  skip
  have qk:Q (aj (cr h a b)):=hr.hs.q
  have hmk:=hr.hs.cE hr.hx
  have F5:=hmk.1
  have U2:=hmk.2.1
  have kQ:=hr.hx
  have sE:=hr.hz
  have ht:=hr.ht
  have JF:(eE (cr h a b))[0]? = some t:=by rw [hr.hf];rfl
  have hfl:0 < (eE (cr h a b)).length:=by rw [hr.hf];exact Nat.succ_pos _
  have qx:Q (bf x1):=⟨hr.hs.sm hr.hx⟩
  obtain ⟨y,hy⟩:∃ y,x1.Out[p]? = some y:=⟨_,List.getElem?_eq_getElem (by omega)⟩
  have qy:Q (c4 y):=⟨j6.h y (List.mem_of_getElem? hy)⟩
  have hml:=(List.getElem?_eq_some_iff.1 kQ).1
  have oF:=(List.getElem?_eq_some_iff.1 sE).1
  have mF:m < ((cr h a b).ap.map bh).length:=by rw [List.length_map];exact hml
  have y7:p < (x1.ai.map aQ).length:=by rw [List.length_map];exact oF
  have Xv:=(List.getElem?_eq_some_iff.1 hy).1
  have hkm:=hr.hs.2.1
  rw [rT hr hy] at G6
  refine bk (kq (cr h a b)).k ?_
  refine cS (m:=0) ?_ (by rw [List.length_map];exact hfl)
  refine aI (by assumption) ?_
  refine cJ [14] [(0,0),(1,0),(2,0),(3,0),(4,0),(5,0),(6,0),(7,0),(8,0),(9,0),(10,0),(11,0),(12,1),(13,0),(14,1)] ?_
  refine cS ?_
  refine aI (by assumption) ?_
  refine aI (by assumption) ?_
  refine cS ?_
  refine aI (by assumption) ?_
  refine aI (by assumption) ?_
  refine bk (mh (cr h a b).au t y).k ?_
  refine cS ?_
  refine aI (by assumption) ?_
  refine aI (by assumption) ?_
  refine cS ?_
  refine aI (by assumption) ?_
  refine aI (by assumption) ?_
  refine jr [(3,0),(3,1),(3,2),(3,3)] (jA (row:=Jg (cr h a b) m x1 p y t) (um (cr h a b) m x1 p y t) m (uT x1 p) p z ⟨t,3⟩ (AN (cr h a b) m x1 p y t) (dz kQ) hmk.2.2.2 sE (q8 hr.hs kQ qy.h).1) ?_
  exact (by rw [G6];rfl)
 ·rw [AJ (fun e=>by rw [e] at hb;simp at hb)] at hr G6
  have qk:Q (aj h):=hr.hs.q
  have hmk:=hr.hs.cE hr.hx
  have F5:=hmk.1
  have U2:=hmk.2.1
  have kQ:=hr.hx
  have sE:=hr.hz
  have ht:=hr.ht
  have JF:(eE h)[0]? = some t:=by rw [hr.hf];rfl
  have hfl:0 < (eE h).length:=by rw [hr.hf];exact Nat.succ_pos _
  have qx:Q (bf x1):=⟨hr.hs.sm hr.hx⟩
  obtain ⟨y,hy⟩:∃ y,x1.Out[p]? = some y:=⟨_,List.getElem?_eq_getElem (by omega)⟩
  have qy:Q (c4 y):=⟨j6.h y (List.mem_of_getElem? hy)⟩
  have hml:=(List.getElem?_eq_some_iff.1 kQ).1
  have oF:=(List.getElem?_eq_some_iff.1 sE).1
  have mF:m < (h.ap.map bh).length:=by rw [List.length_map];exact hml
  have y7:p < (x1.ai.map aQ).length:=by rw [List.length_map];exact oF
  have Xv:=(List.getElem?_eq_some_iff.1 hy).1
  have hkm:=hr.hs.2.1
  rw [rT hr hy] at G6
  refine bk (kq h).k ?_
  refine cS (m:=0) ?_ (by rw [List.length_map];exact hfl)
  refine aI (by assumption) ?_
  refine cJ [14] [(0,0),(1,0),(2,0),(3,0),(4,0),(5,0),(6,0),(7,0),(8,0),(9,0),(10,0),(11,0),(12,1),(13,0),(14,1)] ?_
  refine cS ?_
  refine aI (by assumption) ?_
  refine aI (by assumption) ?_
  refine cS ?_
  refine aI (by assumption) ?_
  refine aI (by assumption) ?_
  refine bk (mh h.au t y).k ?_
  refine cS ?_
  refine aI (by assumption) ?_
  refine aI (by assumption) ?_
  refine cS ?_
  refine aI (by assumption) ?_
  refine aI (by assumption) ?_
  refine jr [(3,0),(1000000,1),(1000000,2),(1000000,3)] (jA (row:=Jg h m x1 p y t) (um h m x1 p y t) m (uT x1 p) p z ⟨t,3⟩ (AN h m x1 p y t) (dz kQ) hmk.2.2.2 sE (q8 hr.hs kQ qy.h).1) ?_
  exact (by rw [G6];rfl)
end
end Go.Proofs.YtdliggkohdnipaaGreat.T
