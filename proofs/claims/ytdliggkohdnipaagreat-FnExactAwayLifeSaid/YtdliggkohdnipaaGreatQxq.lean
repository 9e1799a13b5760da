import Derived.Test.YtdliggkohdnipaaGreatPsq
import Derived.Test.YtdliggkohdnipaaGreatQvq
import Derived.Test.YtdliggkohdnipaaGreatRwq
import Derived.Test.YtdliggkohdnipaaGreatQeq
set_option linter.unusedVariables false
set_option linter.unusedSimpArgs false
namespace Go.Proofs.YtdliggkohdnipaaGreat.T
open Go
set_option maxRecDepth 100000
set_option maxHeartbeats 8000000
theorem q_ {row:List D} {mi pi:Int} (h:ap) (m:Nat) (x:aV) (p:Nat) (z:aQ) (need:Int) (CA:mi=m) (Hh:pi=p) (hr:row=aq h) (hn:0 ≤ need∧need ≤ 3) (hs:oV h) (ha:ku h) (hx:h.ai[m]? = some x) (hz:x.ak[p]? = some z) (uo:XT z) (ci cj:Nat):
  kZ Tryz.prog 353 row [(1,ci),(3,cj)] [0,3,4,14] [.one (.agg [.ref ⟨1000000,[],0⟩, .ref ⟨1000000,[],1⟩, .ref ⟨1000000,[],2⟩, .ref ⟨1000000,[],3⟩]),I mi,I pi,I need] (RG [.a (aq (cP h m p need))]):=by
 subst hr CA Hh
 exact IT h m x p z need hn hs ha hx hz uo ci cj
theorem IU (h:ap) (m:Int) (g:Int) (ag:Int) (need:Int) [Q (aj h)] (ci cj:Nat):kZ Tryz.prog 357 (aq h) [(1,ci),(3,cj)] [0,3,4,14] [.one (.agg [.ref ⟨1000000,[],0⟩, .ref ⟨1000000,[],1⟩, .ref ⟨1000000,[],2⟩, .ref ⟨1000000,[],3⟩]), .one (.c (.ref ⟨1000000,[],2⟩)),I m,I g,I ag,I need,B false] (RG [.a (aq (((find h m g ag need false).map fun q=>q.1).getD h)), .c (.v (.int .i64 (((find h m g ag need false).map fun q=>q.2).getD (-1)))), .c (.v (.bool (find h m g ag need false).isSome))]):=by
 refine kZ.wJ [999997,139] 210 Tryz.func357 fun w g0 _=> ?_
 have K4:=(inferInstance:cX h.ai 1048576).h
 refine JW.cut 2 [1,2,3,4,5,6] [] [14,7] (fun (_u:Unit)=>[.set 7 (.one (.ptr ⟨7,[],0⟩)), .set 14 (.one (.ptr ⟨14,[],0⟩))]) (fun (_u:Unit)=>[(14,⟨true,[.own (.sl 1 []), .own (.sl 9 []), .own (.sl 4 []), .own (.sl 4 [])]⟩),(7,⟨true,[.ref ⟨1000000,[],0⟩, .ref ⟨1000000,[],1⟩, .ref ⟨1000000,[],2⟩, .ref ⟨1000000,[],3⟩]⟩)]) (fun (_u:Unit)=>cM h m g=true∧(need=1 ∨ need=2)) (by exact rfl) ?_
 refine ⟨fun J1 sY=> ?_,fun _u vf=> ?_⟩
 ·refine ah (lA h).k ?_
  refine aB ?_ ?_ <;> intro gK
  ·refine sY _ _ _ ?_
   exact ⟨(by rw [show find h m g ag need false=none from jl (by exact Ip (by simpa using gK))];rfl),_,_,_,_,_,_,_,rfl,rfl,rfl,rfl⟩
  ·refine len ?_
   refine cg ?_
   refine ah (aE _ _ _).k ?_
   refine aB ?_ ?_ <;> intro Y3
   ·refine sY _ _ _ ?_
    exact ⟨(by rw [show find h m g ag need false=none from jl (by intro e;have e2:=bW.1 e.1;omega)];rfl),_,_,_,_,_,_,_,rfl,rfl,rfl,rfl⟩
   ·have hx0:h.ai[m.toNat]? = some (cK h m.toNat):=cO (by omega)
    have qm0:Q (bt (cK h m.toNat)):=⟨jW.h _ (aH hx0)⟩
    have hlg:=(inferInstance:cX (cK h m.toNat).aa 1048576).h
    refine bl ?_
    refine aL ‹_› ?_
    refine aL ‹_› ?_
    refine len ?_
    refine cg ?_
    refine ah (aE _ _ _).k ?_
    refine aB ?_ ?_ <;> intro hg25
    ·refine sY _ _ _ ?_
     exact ⟨(by rw [show find h m g ag need false=none from jl (by intro e;have e2:=bW.1 e.1;omega)];rfl),_,_,_,_,_,_,_,rfl,rfl,rfl,rfl⟩
    ·refine aB ?_ ?_ <;> intro hg28
     ·refine aB ?_ ?_ <;> intro hb
      ·refine sY _ _ _ ?_
       exact ⟨(by rw [show find h m g ag need false=none from jl (by intro e;have e2:=bW.1 e.1;omega)];rfl),_,_,_,_,_,_,_,rfl,rfl,rfl,rfl⟩
      ·refine sY _ _ _ ?_
       exact ⟨(),⟨bW.2 ⟨by simpa using gK,by omega,by omega⟩,by omega⟩,(by repeat' first|exact rfl|constructor)⟩
     ·refine sY _ _ _ ?_
      exact ⟨(),⟨bW.2 ⟨by simpa using gK,by omega,by omega⟩,by omega⟩,(by repeat' first|exact rfl|constructor)⟩
 have Iq:=bW.1 vf.1
 have hx0:=cO Iq.2.1
 have oR:=eE Iq.1 hx0
 have hmo:=dZ oR
 obtain ⟨y,hy⟩:∃ y,(cK h m.toNat).aa[g.toNat]? = some y:=⟨_,bg (by omega)⟩
 have qU:dB h m.toNat g.toNat=y:=kv hx0 hy
 have D5:bT y=true:=(by simp only [fy,bh] at oR;exact eY.1 oR.1.1.2 y (aH hy))
 have hml:=(aM.1 hx0).1
 have QC:=(aM.1 hy).1
 have u5:Q (bt (cK h m.toNat)):=⟨jW.h _ (aH hx0)⟩
 have qy:Q (aJ y):=⟨jW.h y (aH hy)⟩
 refine JW.cut 4 [1,2,3,4,5,6,7,14] [] [1000000] (fun (q:Int)=>[.set 17 (I q), .set 19 (I (cq m g))]) (fun (q:Int)=>[(1000000,⟨false,([.own (.sl 1 ((hD h m q need).au.map aP)), .own (.sl 9 ((hD h m q need).ai.map bA)), .own (.sl 4 ((hD h m q need).Buffer.map aC)), .own (.sl 4 ((hD h m q need).aD.map aC))] ++ [.ref ⟨1000000,[(1,ci),(3,cj)],0⟩, .ref ⟨1000000,[(1,ci),(3,cj)],3⟩, .ref ⟨1000000,[(1,ci),(3,cj)],4⟩, .ref ⟨1000000,[(1,ci),(3,cj)],14⟩])⟩)]) (fun (q:Int)=>bB (dB h m.toNat g.toNat).Live ag need=some q∧0 ≤ q∧q < 8) (by exact rfl) ?_
 refine ⟨fun J2 Dk=> ?_,fun q hj2=> ?_⟩
 ·refine bl ?_
  refine aL ‹_› ?_
  refine aL ‹_› ?_
  refine bl ?_
  refine aL ‹_› ?_
  refine aL ‹_› ?_
  refine an (uN y.Live ag need).k ?_
  refine aB ?_ ?_ <;> intro iz
  ·refine Dk _ _ _ ?_
   exact ⟨(by rw [show find h m g ag need false=none from FK vf qU ‹_›];rfl),_,_,_,_,_,_,_,rfl,rfl,rfl,rfl⟩
  ·refine ah (rF m g).k ?_
   have Q7:=zi (by assumption:(bB y.Live ag need).isSome=true)
   have Xh:=pN D5 Q7
   refine aB ?_ ?_ <;> intro tr
   ·refine bl ?_
    refine aL ‹_› ?_
    refine aL ‹_› ?_
    refine bl ?_
    refine aL ‹_› ?_
    refine sn (fun z10 hz10 qz10 lz10=> ?_)
    refine Dk _ _ _ ?_
    exact ⟨((bB y.Live ag need).getD (-1)),⟨by rw [qU];exact Q7,Xh⟩,(by repeat' first|exact rfl|constructor|(refine dL ?_;exact congrArg (fun l:List D=>(⟨false,l.map C.own ++ [.ref ⟨1000000,[(1,ci),(3,cj)],0⟩, .ref ⟨1000000,[(1,ci),(3,cj)],3⟩, .ref ⟨1000000,[(1,ci),(3,cj)],4⟩, .ref ⟨1000000,[(1,ci),(3,cj)],14⟩]⟩:Rt)) (zf (by exact hx0) (by omega));done))⟩
   ·refine Dk _ _ _ ?_
    exact ⟨((bB y.Live ag need).getD (-1)),⟨by rw [qU];exact Q7,Xh⟩,(by repeat' first|exact rfl|constructor|(refine dL ?_;exact congrArg (fun l:List D=>(⟨false,l.map C.own ++ [.ref ⟨1000000,[(1,ci),(3,cj)],0⟩, .ref ⟨1000000,[(1,ci),(3,cj)],3⟩, .ref ⟨1000000,[(1,ci),(3,cj)],4⟩, .ref ⟨1000000,[(1,ci),(3,cj)],14⟩]⟩:Rt)) (zg (by omega));done))⟩
 have Xi:=(by assumption:Q (aj h)).h
 obtain ⟨x,z,k,y2,fE,Zo⟩:=y7 (need:=need) vf.1 Xi hj2.2
 have qd:Q (aj (hD h m q need)):=fE.hs.q
 refine JW.cut 2 [2,3,4,5,6,7,14,17,19] [] [20] (fun (_u:Unit)=>[.set 20 (.one (.ptr ⟨20,[],0⟩))]) (fun (_u:Unit)=>[(20,⟨true,[.own (.v (.int .i64 ((cR (hD h m q need).Buffer (cq m g) ag).getD Oa).Tag)), .own (.v (.int .i64 ((cR (hD h m q need).Buffer (cq m g) ag).getD Oa).aN)), .own (.v (.int .i64 ((cR (hD h m q need).Buffer (cq m g) ag).getD Oa).Host)), .own (.v (.int .i64 ((cR (hD h m q need).Buffer (cq m g) ag).getD Oa).bf))]⟩)]) (fun (_u:Unit)=>oH (hD h m q need) false m g ag need=none) (by exact rfl) ?_
 refine ⟨fun J3 Q8=> ?_,fun _u Xj=> ?_⟩
 ·refine an (uY (hD h m q need).Buffer (cq m g) ag).k ?_
  refine aB ?_ ?_ <;> intro hg1
  ·refine ah (lz _ _).k ?_
   refine aB ?_ ?_ <;> intro AJ
   ·refine gp [0,1,2,3] [] [] (.fork (.alt 0 (.fork (.alt 1 (.fork (.alt 2 (.fa 3 (.quiet 4 0 (.quiet 5 0 .done))) (.alt 3 (.fa 2 (.quiet 4 0 (.quiet 5 0 .done))) .stop))) (.alt 3 (.fa 1 (.fa 2 (.quiet 4 0 (.quiet 5 0 .done)))) .stop))) (.alt 1 (.fork (.alt 0 (.fork (.alt 2 (.fa 3 (.quiet 4 0 (.quiet 5 0 .done))) (.alt 3 (.fa 2 (.quiet 4 0 (.quiet 5 0 .done))) .stop))) (.alt 2 (.fa 0 (.fa 3 (.quiet 4 0 (.quiet 5 0 .done)))) .stop))) .stop))) ?_
    repeat' first|exact True.intro|refine And.intro ?_ ?_
    all_goals (
     refine Q8 _ _ _ ?_
     (exact ⟨(by rw [show find h m g ag need false=_ from FL vf hj2.1 ‹_› ‹_›];rfl),_,_,_,_,_,_,_,rfl,rfl,rfl,rfl⟩))
   ·refine Q8 _ _ _ ?_
    exact ⟨(),(yj (by right;assumption)),(by repeat' first|exact rfl|constructor)⟩
  ·refine Q8 _ _ _ ?_
   exact ⟨(),(yj (by left;assumption)),(by repeat' first|exact rfl|constructor)⟩
 obtain ⟨x2,k2,hme⟩:=Dr (ag:=ag) (need:=need) fE
 have hkk:=vT fE.hx fE.hk
 have qk:Q (dR k):=⟨(fE.hs.sm fE.hx).2.2.2.2.2.2 k (aH fE.hk)⟩
 have qk2:Q (dR k2):=⟨(hme.hs.sm hme.hx).2.2.2.2.2.2 k2 (aH hme.hk)⟩
 have qm:Q (aj (cP (hD h m q need) m.toNat q.toNat need)):=hme.hs.q
 have qx2:Q (bt x2):=⟨hme.hs.sm hme.hx⟩
 have hax:(hD h m q need).ai[m.toNat]? = some x:=fE.hx
 have hak:=fE.hk
 have I4:(cP (hD h m q need) m.toNat q.toNat need).ai[m.toNat]? = some x2:=hme.hx
 have hbk:=hme.hk
 have hby:=hme.hy
 have qx1:Q (bt x):=⟨fE.hs.sm fE.hx⟩
 have l1:=(aM.1 hax).1
 have l2:=(aM.1 hak).1
 have l3:=(aM.1 I4).1
 have l4:=(aM.1 hbk).1
 have l5:=(aM.1 hby).1
 have l6:m.toNat < ((cP (hD h m q need) m.toNat q.toNat need).ai.map bA).length:=by rw [aI];exact l3
 have l7:g.toNat < (x2.Tables.map cz).length:=by rw [aI];exact l4
 refine JW.cut 2 [4,6,7,14,15,16,19,20] [] [22,7,139,1000000] (fun (c:Bool)=>[.set 22 (.one (.ptr ⟨22,[],0⟩))]) (fun (c:Bool)=>[(22,⟨true,[.own (.v (.int .i64 (bif c then ((ask (eX k2 y2.Live x2.ak ag) ag).getD bE) else ((ask k ag).getD bE)).aN)), .own (.v (.int .i64 (bif c then ((ask (eX k2 y2.Live x2.ak ag) ag).getD bE) else ((ask k ag).getD bE)).bf))]⟩),(7,⟨true,bif c then [.ref ⟨139,[],0⟩, .ref ⟨139,[],1⟩, .ref ⟨139,[],2⟩, .ref ⟨139,[],3⟩] else [.ref ⟨1000000,[],0⟩, .ref ⟨1000000,[],1⟩, .ref ⟨1000000,[],2⟩, .ref ⟨1000000,[],3⟩]⟩),(139,⟨false,bif c then List.map C.own (tO (cP (hD h m q need) m.toNat q.toNat need) m.toNat x2 g.toNat (eX k2 y2.Live x2.ak ag)) else []⟩),(1000000,⟨false,bif c then [.own .hole, .own .hole, .own .hole, .own .hole, .ref ⟨139,[(1,ci),(3,cj)],0⟩, .ref ⟨139,[(1,ci),(3,cj)],3⟩, .ref ⟨139,[(1,ci),(3,cj)],4⟩, .ref ⟨139,[(1,ci),(3,cj)],14⟩] else ([.own (.sl 1 ((hD h m q need).au.map aP)), .own (.sl 9 ((hD h m q need).ai.map bA)), .own (.sl 4 ((hD h m q need).Buffer.map aC)), .own (.sl 4 ((hD h m q need).aD.map aC))] ++ [.ref ⟨1000000,[(1,ci),(3,cj)],0⟩, .ref ⟨1000000,[(1,ci),(3,cj)],3⟩, .ref ⟨1000000,[(1,ci),(3,cj)],4⟩, .ref ⟨1000000,[(1,ci),(3,cj)],14⟩])⟩)]) (fun (c:Bool)=>lets (ask (kept (hD h m q need) m.toNat g.toNat) ag) need= !c) (by exact rfl) ?_
 refine ⟨fun J4 MT=> ?_,fun c Zu=> ?_⟩
 ·refine bl ?_
  refine aL ‹_› ?_
  refine aL ‹_› ?_
  refine bl ?_
  refine aL ‹_› ?_
  refine aL ‹_› ?_
  refine an (mc k ag).k ?_
  refine aB ?_ ?_ <;> intro oe
  ·refine sZ 1000000 [(1000000,0),(1000000,1),(1000000,2),(1000000,3)] (q_ (mi:=m) (pi:=q) (row:=aq (hD h m q need)) (hD h m q need) m.toNat x q.toNat z need (by omega) (by omega) rfl (by omega) fE.hs fE.ha fE.hx fE.hz fE.uo ci cj) ?_
   refine cI [35] [(0,0),(1,0),(2,0),(3,0),(4,0),(5,0),(6,0),(7,0),(8,0),(9,0),(10,0),(11,0),(12,0),(13,0),(14,0),(15,0),(16,0),(17,0),(18,0),(19,0),(20,0),(21,0),(22,0),(23,0),(24,0),(25,0),(26,0),(27,0),(28,0),(29,0),(30,0),(31,0),(32,0),(33,1),(34,0),(35,1)] ?_
   refine bl ?_
   refine aL ‹_› ?_
   refine bl ?_
   refine aL ‹_› ?_
   refine aL ‹_› ?_
   refine bl ?_
   refine aL ‹_› ?_
   refine aL ‹_› ?_
   refine bl ?_
   refine aL ‹_› ?_
   refine aL ‹_› ?_
   refine bl ?_
   refine aL ‹_› ?_
   refine aL ‹_› ?_
   refine bl ?_
   refine aL ‹_› ?_
   refine an (n_ k2 y2.Live x2.ak ag).k ?_
   refine aL ‹_› ?_
   refine bl ?_
   refine aL ‹_› ?_
   refine aL ‹_› ?_
   refine bl ?_
   refine cJ ?_
   refine cJ ?_
   refine bl ?_
   refine cJ ?_
   refine cJ ?_
   refine an (mc (eX k2 y2.Live x2.ak ag) ag).k ?_ (by repeat first|exact rfl|refine fi.mk (by exact WD.w) ?_|refine cJ ?_)
   refine MT _ _ _ ?_
   exact ⟨true,(jm (by rw [hkk];(left;assumption))),(by repeat' first|exact rfl|constructor)⟩
  ·refine aB ?_ ?_ <;> intro GO
   ·refine sZ 1000000 [(1000000,0),(1000000,1),(1000000,2),(1000000,3)] (q_ (mi:=m) (pi:=q) (row:=aq (hD h m q need)) (hD h m q need) m.toNat x q.toNat z need (by omega) (by omega) rfl (by omega) fE.hs fE.ha fE.hx fE.hz fE.uo ci cj) ?_
    refine cI [35] [(0,0),(1,0),(2,0),(3,0),(4,0),(5,0),(6,0),(7,0),(8,0),(9,0),(10,0),(11,0),(12,0),(13,0),(14,0),(15,0),(16,0),(17,0),(18,0),(19,0),(20,0),(21,0),(22,0),(23,0),(24,0),(25,0),(26,0),(27,0),(28,0),(29,0),(30,0),(31,0),(32,0),(33,1),(34,0),(35,1)] ?_
    refine bl ?_
    refine aL ‹_› ?_
    refine bl ?_
    refine aL ‹_› ?_
    refine aL ‹_› ?_
    refine bl ?_
    refine aL ‹_› ?_
    refine aL ‹_› ?_
    refine bl ?_
    refine aL ‹_› ?_
    refine aL ‹_› ?_
    refine bl ?_
    refine aL ‹_› ?_
    refine aL ‹_› ?_
    refine bl ?_
    refine aL ‹_› ?_
    refine an (n_ k2 y2.Live x2.ak ag).k ?_
    refine aL ‹_› ?_
    refine bl ?_
    refine aL ‹_› ?_
    refine aL ‹_› ?_
    refine bl ?_
    refine cJ ?_
    refine cJ ?_
    refine bl ?_
    refine cJ ?_
    refine cJ ?_
    refine an (mc (eX k2 y2.Live x2.ak ag) ag).k ?_ (by repeat first|exact rfl|refine fi.mk (by exact WD.w) ?_|refine cJ ?_)
    refine MT _ _ _ ?_
    exact ⟨true,(jm (by rw [hkk];(right;left;assumption))),(by repeat' first|exact rfl|constructor)⟩
   ·refine ah (lz _ _).k ?_
    refine aB ?_ ?_ <;> intro D0
    ·refine sZ 1000000 [(1000000,0),(1000000,1),(1000000,2),(1000000,3)] (q_ (mi:=m) (pi:=q) (row:=aq (hD h m q need)) (hD h m q need) m.toNat x q.toNat z need (by omega) (by omega) rfl (by omega) fE.hs fE.ha fE.hx fE.hz fE.uo ci cj) ?_
     refine cI [35] [(0,0),(1,0),(2,0),(3,0),(4,0),(5,0),(6,0),(7,0),(8,0),(9,0),(10,0),(11,0),(12,0),(13,0),(14,0),(15,0),(16,0),(17,0),(18,0),(19,0),(20,0),(21,0),(22,0),(23,0),(24,0),(25,0),(26,0),(27,0),(28,0),(29,0),(30,0),(31,0),(32,0),(33,1),(34,0),(35,1)] ?_
     refine bl ?_
     refine aL ‹_› ?_
     refine bl ?_
     refine aL ‹_› ?_
     refine aL ‹_› ?_
     refine bl ?_
     refine aL ‹_› ?_
     refine aL ‹_› ?_
     refine bl ?_
     refine aL ‹_› ?_
     refine aL ‹_› ?_
     refine bl ?_
     refine aL ‹_› ?_
     refine aL ‹_› ?_
     refine bl ?_
     refine aL ‹_› ?_
     refine an (n_ k2 y2.Live x2.ak ag).k ?_
     refine aL ‹_› ?_
     refine bl ?_
     refine aL ‹_› ?_
     refine aL ‹_› ?_
     refine bl ?_
     refine cJ ?_
     refine cJ ?_
     refine bl ?_
     refine cJ ?_
     refine cJ ?_
     refine an (mc (eX k2 y2.Live x2.ak ag) ag).k ?_ (by repeat first|exact rfl|refine fi.mk (by exact WD.w) ?_|refine cJ ?_)
     refine MT _ _ _ ?_
     exact ⟨true,(jm (by rw [hkk];(right;right;assumption))),(by repeat' first|exact rfl|constructor)⟩
    ·refine MT _ _ _ ?_
     exact ⟨false,(by rw [hkk];exact vb ‹_› ‹_› ‹_›),(by repeat' first|exact rfl|constructor)⟩
 cases c
 ·refine JW.w ?_
  refine bu (nL (hD h m q need).Buffer ⟨cq m g,ag,((ask k ag).getD bE).aN,((ask k ag).getD bE).bf⟩).k ?_
  refine gp [0,1,2,3] [] [] (.fork (.alt 0 (.fork (.alt 1 (.fork (.alt 2 (.fa 3 (.quiet 4 0 (.quiet 5 0 .done))) (.alt 3 (.fa 2 (.quiet 4 0 (.quiet 5 0 .done))) .stop))) (.alt 3 (.fa 1 (.fa 2 (.quiet 4 0 (.quiet 5 0 .done)))) .stop))) (.alt 1 (.fork (.alt 0 (.fork (.alt 2 (.fa 3 (.quiet 4 0 (.quiet 5 0 .done))) (.alt 3 (.fa 2 (.quiet 4 0 (.quiet 5 0 .done))) .stop))) (.alt 2 (.fa 0 (.fa 3 (.quiet 4 0 (.quiet 5 0 .done)))) .stop))) .stop))) ?_
  repeat' first|exact True.intro|refine And.intro ?_ ?_
  all_goals first|exact ⟨_,_,_,_,_,_,_,rfl,rfl,rfl,rfl⟩|exact (by rw [show find h m g ag need false=_ from Pb vf hj2.1 Xj hkk Zu];rfl)
 ·refine JW.w ?_
  refine bu (nL (cP (hD h m q need) m.toNat q.toNat need).Buffer ⟨cq m g,ag,((ask (eX k2 y2.Live x2.ak ag) ag).getD bE).aN,((ask (eX k2 y2.Live x2.ak ag) ag).getD bE).bf⟩).k ?_
  refine gp [0,1,2,3] [] [] (.fork (.alt 0 (.fork (.alt 1 (.fork (.alt 2 (.fa 3 (.quiet 4 0 (.quiet 5 0 .done))) (.alt 3 (.fa 2 (.quiet 4 0 (.quiet 5 0 .done))) .stop))) (.alt 3 (.fa 1 (.fa 2 (.quiet 4 0 (.quiet 5 0 .done)))) .stop))) (.alt 1 (.fork (.alt 0 (.fork (.alt 2 (.fa 3 (.quiet 4 0 (.quiet 5 0 .done))) (.alt 3 (.fa 2 (.quiet 4 0 (.quiet 5 0 .done))) .stop))) (.alt 2 (.fa 0 (.fa 3 (.quiet 4 0 (.quiet 5 0 .done)))) .stop))) .stop))) ?_
  repeat' first|exact True.intro|refine And.intro ?_ ?_
  all_goals first|exact ⟨_,_,_,_,_,_,_,rfl,rfl,rfl,rfl⟩|exact (by rw [Zv vf hj2.1 Xj hme Zu,show find h m g ag need false=_ from Cr vf hj2.1 Xj hme Zu];rfl)
section
variable {c:Code} {fn:Func} {f:FuncId} {pts:List TS} {P:Program}
theorem aF.wM {R:nQ→Prop} (mk:List Nat) (n:Nat) (hf:P.funcs[f]? = some fn) (h:∀ w g0,jq pts→sj 0 pts fun e=>wC P w g0 n c e (mkR mk []) (LS P n fn.results.toList R)) 
  (hb:fn.body=some c:=by exact rfl) (hn:fn.ntmps=n:=by exact rfl) (eW:Nat.ble pts.length n=true:=by exact rfl) (hmk:(mk ++ []).Nodup:=by decide) (hml:∀ k ∈ mk,k < 1000000:=by decide):aF P f pts R:=by
 have hl:=fA eW
 subst hn
 refine aF.of hf hb hl fun w g0=>TC.jq fun hM=>TC.marks mk hmk hml ?_
 obtain ⟨e,h1,h2⟩:=jC (m:=0) (h w g0 hM)
 rw [← IQ,mA hl h1]
 exact (n7 h2).mono fun ex st hl=>vu hl
theorem ng.wM {row:List D} {R:nQ→Prop} (mk:List Nat) (n:Nat) (hf:P.funcs[f]? = some fn) 
  (hh:∀ w g0,jq pts→sj 0 pts fun e=>zK row fun cs=>wC P w g0 n c e (mkR mk [(1000000,⟨false,cs⟩)]) (LS P n fn.results.toList R))
  (hb:fn.body=some c:=by exact rfl) (hn:fn.ntmps=n:=by exact rfl) (eW:Nat.ble pts.length n=true:=by exact rfl) (hmk:(mk ++ [1000000]).Nodup:=by decide) (hml:∀ k ∈ mk,k < 1000000:=by decide):ng P f row pts R:=by
 have hl:=fA eW
 subst hn
 refine eH.P1 rfl hf hb hl fun w g0=>TC.jq fun hM=>TC.marks mk hmk hml ?_
 obtain ⟨e,h1,h2⟩:=jC (m:=0) (hh w g0 hM)
 rw [← IQ,mA hl h1]
 exact (n7 (oq h2)).mono fun ex st hl=>vu hl
end
theorem E1 {row:List D} (h:ap) (m g ag need:Int) [Q (aj h)] (hr:row=aq h) (ci cj:Nat):
  kZ Tryz.prog 357 row [(1,ci),(3,cj)] [0,3,4,14] [.one (.agg [.ref ⟨1000000,[],0⟩, .ref ⟨1000000,[],1⟩, .ref ⟨1000000,[],2⟩, .ref ⟨1000000,[],3⟩]), .one (.c (.ref ⟨1000000,[],2⟩)),I m,I g,I ag,I need,B false] (RG [.a (aq (((find h m g ag need false).map fun q=>q.1).getD h)), .c (.v (.int .i64 (((find h m g ag need false).map fun q=>q.2).getD (-1)))), .c (.v (.bool (find h m g ag need false).isSome))]):=by
 subst hr
 exact IU h m g ag need ci cj
theorem wS (h:ap) (m g:Int) (u:ax) (wr:Bool) [Q (aj h)] (K9:cM h m g=true) (hu:dB h m.toNat g.toNat=u):ng Tryz.prog 340 (aq h) [.one (.agg [.ref ⟨1000000,[],0⟩, .ref ⟨1000000,[],1⟩, .ref ⟨1000000,[],2⟩, .ref ⟨1000000,[],3⟩]),I m,I g, .one (.agg [.ref ⟨1000000,[(1,m.toNat),(3,g.toNat)],0⟩, .ro (.v (.int .i64 u.A)), .ro (.v (.int .i64 u.Pc)), .ref ⟨1000000,[(1,m.toNat),(3,g.toNat)],3⟩, .ref ⟨1000000,[(1,m.toNat),(3,g.toNat)],4⟩, .ro (.v (.int .i64 u.jv.bn)), .ro (.v (.int .i64 u.jv.Post)), .ro (.v (.bool u.jv.Open)), .ro (.v (.int .i64 u.av)), .ro (.v (.int .i64 u.Exit.Kind)), .ro (.v (.int .i64 u.Exit.aN)), .ro (.v (.bool u.Exit.Write)), .ro (.v (.int .i64 u.Exit.N)), .ro (.v (.bool u.kg)), .ref ⟨1000000,[(1,m.toNat),(3,g.toNat)],14⟩]),B wr] (RG [.a (aq (ie h m.toNat g.toNat u wr))]):=by
 refine ng.wM [999997] 85 Tryz.func340 fun w g0 _=> ?_
 have Iq:=bW.1 K9
 have hx0:=cO Iq.2.1
 have oR:=eE Iq.1 hx0
 have hy:(cK h m.toNat).aa[g.toNat]? = some u:=by
  obtain ⟨y,hy⟩:∃ y,(cK h m.toNat).aa[g.toNat]? = some y:=⟨_,bg (by omega)⟩
  rw [← hu,kv hx0 hy]
  exact hy
 have D5:bT u=true:=(by simp only [fy,bh] at oR;exact eY.1 oR.1.1.2 u (aH hy))
 have hml:=(aM.1 hx0).1
 have QC:=(aM.1 hy).1
 have u5:Q (bt (cK h m.toNat)):=⟨jW.h _ (aH hx0)⟩
 have qy:Q (aJ u):=⟨jW.h u (aH hy)⟩
 have hyr:=gS D5
 have hya:=FG D5
 have qp:Q (-9223372036854775808 ≤ u.Pc):=⟨by omega⟩
 have qa:Q (address u ≤ 9223372036854775807):=⟨by omega⟩
 have hwi:= @MX u
 have how:=Q_ oR
 refine ah (GV u).k ?_
 refine xP [9,11,12,13,14,15] [] [] (.quiet 0 0 (.quiet 1 0 (.quiet 2 0 (.quiet 3 0 (.quiet 4 0 (.quiet 5 0 (.quiet 7 0 (.fa 6 (.fa 8 (.fa 9 (.quiet 10 0 (.fork (.alt 11 (.fork (.alt 12 (.fork (.alt 13 (.fa 14 (.fa 15 (.quiet 16 0 .done))) (.alt 14 (.fork (.alt 13 (.fa 15 (.quiet 16 0 .done)) (.alt 15 (.fa 13 (.quiet 16 0 .done)) .stop))) .stop))) (.alt 13 (.fork (.alt 12 (.fa 14 (.fa 15 (.quiet 16 0 .done))) (.alt 14 (.fa 12 (.fa 15 (.quiet 16 0 .done))) .stop))) (.alt 14 (.fork (.alt 12 (.fork (.alt 13 (.fa 15 (.quiet 16 0 .done)) (.alt 15 (.fa 13 (.quiet 16 0 .done)) .stop))) (.alt 13 (.fa 12 (.fa 15 (.quiet 16 0 .done))) .stop))) .stop)))) (.alt 12 (.fork (.alt 11 (.fork (.alt 13 (.fa 14 (.fa 15 (.quiet 16 0 .done))) (.alt 14 (.fork (.alt 13 (.fa 15 (.quiet 16 0 .done)) (.alt 15 (.fa 13 (.quiet 16 0 .done)) .stop))) .stop))) (.alt 13 (.fa 11 (.fa 14 (.fa 15 (.quiet 16 0 .done)))) .stop))) (.alt 13 (.fork (.alt 11 (.fork (.alt 12 (.fa 14 (.fa 15 (.quiet 16 0 .done))) (.alt 14 (.fa 12 (.fa 15 (.quiet 16 0 .done))) .stop))) (.alt 12 (.fa 11 (.fa 14 (.fa 15 (.quiet 16 0 .done)))) .stop))) .stop))))))))))))))) [1,2,4,5,8,10,11] [] [5,8,26,1000000] [.set 12 (I (nP h m g (tP u) (cA wr))), .set 13 (B (find h m g (tP u) (cA wr) false).isSome)] [(5,⟨true,[.ref ⟨26,[],0⟩, .ref ⟨26,[],1⟩, .ref ⟨26,[],2⟩, .ref ⟨26,[],3⟩]⟩),(8,⟨true,[.ref ⟨26,[(1,m.toNat),(3,g.toNat)],0⟩, .own (.v (.int .i64 u.A)), .own (.v (.int .i64 u.Pc)), .ref ⟨26,[(1,m.toNat),(3,g.toNat)],3⟩, .ref ⟨26,[(1,m.toNat),(3,g.toNat)],4⟩, .own (.v (.int .i64 u.jv.bn)), .own (.v (.int .i64 u.jv.Post)), .own (.v (.bool u.jv.Open)), .own (.v (.int .i64 u.av)), .own (.v (.int .i64 u.Exit.Kind)), .own (.v (.int .i64 u.Exit.aN)), .own (.v (.bool u.Exit.Write)), .own (.v (.int .i64 u.Exit.N)), .own (.v (.bool u.kg)), .ref ⟨26,[(1,m.toNat),(3,g.toNat)],14⟩]⟩),(26,⟨false,[.own (.sl 1 ((nH h m g (tP u) (cA wr)).au.map aP)), .own (.sl 9 ((nH h m g (tP u) (cA wr)).ai.map bA)), .own (.sl 4 ((nH h m g (tP u) (cA wr)).Buffer.map aC)), .own (.sl 4 ((nH h m g (tP u) (cA wr)).aD.map aC))]⟩)] ?_
 refine ⟨?_, ?_⟩
 ·repeat' first|exact True.intro|refine And.intro ?_ ?_|refine ah (nD (address u)).k ?_|refine ah (I_ wr).k ?_|refine sZ 8 [(1000000,0),(1000000,1),(1000000,2),(1000000,3)] (E1 (row:=aq h) h m g (tP u) (cA wr) rfl m.toNat g.toNat) ?_|exact rfl
 obtain ⟨x2,vg,Xn⟩:=Q9 (m:=m) (g:=g) (ag:=tP u) (need:=cA wr) (by assumption:Q (aj h)).h hx0
 have qn:Q (aj (nH h m g (tP u) (cA wr))):=inferInstance
 generalize Zx:(nH h m g (tP u) (cA wr))=H2 at vg qn ⊢
 generalize hP2:(nP h m g (tP u) (cA wr))=P2
 have SK:x2.aa[g.toNat]? = some u:=by rw [Xn];exact hy
 have qx2:Q (bt x2):=⟨qn.h.2.1.2 x2 (aH vg)⟩
 have l1:=(aM.1 vg).1
 have l2:=(aM.1 SK).1
 have l3:m.toNat < (H2.ai.map bA).length:=by rw [aI];exact l1
 have l4:g.toNat < (x2.aa.map bp).length:=by rw [aI];exact l2
 refine aB ?_ ?_ <;> intro hb
 ·refine cI [14] [(0,0),(1,0),(2,0),(3,0),(4,0),(5,0),(6,0),(7,0),(8,0),(10,0),(9,1),(11,1),(12,1),(13,0),(14,1)] ?_
  refine bl ?_
  refine aL vg ?_
  refine ah (nD (address u)).k ?_
  refine ah (C1 (tP u) wr).k ?_
  refine an (gm u (iR (tP u) wr)).k ?_
  refine aL vg ?_
  refine bl ?_
  refine aL vg ?_
  refine aL SK ?_
  exact (by show _=c7 [RD.a (aq (ie h m.toNat g.toNat u wr))];rw [MW (by omega) (by omega) ‹_›,oJ _ _ _ _ _ hx0];have e2:=(MV (by assumption:(find h m g (tP u) (cA wr) false).isSome=false)).symm.trans Zx;subst e2;have e3:=Option.some.inj (hx0.symm.trans vg);subst e3;rfl)
 ·refine aB ?_ ?_ <;> intro iz
  ·refine cI [9] [(0,0),(1,0),(2,0),(3,0),(5,0),(6,0),(4,1),(7,1),(8,0),(9,1)] ?_
   refine ah (nE (address u)).k ?_
   refine bu (q5 H2.au P2 (b6 (address u)) u.A).k ?_
   refine cI [10] [(0,0),(1,0),(2,0),(3,0),(4,0),(5,0),(6,0),(7,0),(8,1),(9,0),(10,1)] ?_
   refine bl ?_
   refine aL vg ?_
   refine an (Jg u).k ?_
   refine aL vg ?_
   refine bl ?_
   refine aL vg ?_
   refine aL SK ?_
   exact (by show _=c7 [RD.a (aq (ie h m.toNat g.toNat u wr))];rw [Pg (by omega) (by omega) ‹_› ‹_›,Zx,hP2,oJ _ _ _ _ _ (show ({ H2 with au:=eR H2.au P2 (b6 (address u)) u.A }:ap).ai[m.toNat]? = some x2 from vg)];rfl)
  ·refine cI [16] [(0,0),(1,0),(2,0),(3,0),(4,0),(5,0),(6,0),(7,0),(8,0),(9,0),(10,0),(11,0),(12,1),(13,1),(14,1),(15,0),(16,1)] ?_
   refine bl ?_
   refine aL vg ?_
   refine ah (nE (address u)).k ?_
   refine ah (zU H2.au P2 (b6 (address u))).k ?_
   refine an (Jh u (cellAt H2.au P2 (b6 (address u)))).k ?_
   refine aL vg ?_
   refine bl ?_
   refine aL vg ?_
   refine aL SK ?_
   exact (by show _=c7 [RD.a (aq (ie h m.toNat g.toNat u wr))];rw [SJ (by omega) (by omega) ‹_› ‹_›,Zx,hP2,oJ _ _ _ _ _ vg];rfl)
end Go.Proofs.YtdliggkohdnipaaGreat.T
