import Derived.Test.YtdliggkohdnipaaGreatPqq
set_option linter.unusedVariables false
set_option linter.unusedSimpArgs false
namespace Go.Proofs.YtdliggkohdnipaaGreat.T
open Go
section
variable {io:Bool} {g m need ag q:Int} {y:ax} {h:ap} {k:cE} {x:aV}
set_option maxRecDepth 100000
set_option maxHeartbeats 8000000
theorem oI {row:List D} {mi pi:Int} (h:ap) (m:Nat) (x:aV) (p:Nat) (z:aQ) (need:Int) (CA:mi=m) (Hh:pi=p) (hr:row=aq h) (hn:0 ≤ need∧need ≤ 3) (hs:oV h) (ha:ku h) (hx:h.ai[m]? = some x) (hz:x.ak[p]? = some z) (uo:XT z):
  ng Tryz.prog 353 row [.one (.agg [.ref ⟨1000000,[],0⟩, .ref ⟨1000000,[],1⟩, .ref ⟨1000000,[],2⟩, .ref ⟨1000000,[],3⟩]),I mi,I pi,I need] (RG [.a (aq (cP h m p need))]):=by
 subst hr CA Hh
 exact HS h m x p z need hn hs ha hx hz uo
theorem Cr (hn:cM h m g=true∧(need=1 ∨ need=2)) (hq:bB (dB h m.toNat g.toNat).Live ag need=some q) (h1:oH (hD h m q need) io m g ag need=none) 
  (hm:MS (hD h m q need) m.toNat g.toNat ag q.toNat need x k y) (hl:lets (ask (kept (hD h m q need) m.toNat g.toNat) ag) need=false):
  find h m g ag need io=some (pz { cP (hD h m q need) m.toNat q.toNat need with ai:=(cP (hD h m q need) m.toNat q.toNat need).ai.set m.toNat (Cq x g.toNat (eX k y.Live x.ak ag)) } io (ic (qG (cP (hD h m q need) m.toNat q.toNat need) io) ⟨cq m g,ag,((ask (eX k y.Live x.ak ag) ag).getD bE).aN,((ask (eX k y.Live x.ak ag) ag).getD bE).bf⟩),((ask (eX k y.Live x.ak ag) ag).getD bE).aN):=by
 rw [va hn hq h1]
 have h2:=hm.hf hl
 unfold eF sF hF
 rw [h2.2,h2.1]
 rfl
theorem Pa (H:ap) (io:Bool) (b:List bP) (m:Nat) (x:aV) (g:Nat) (k:cE):aq (pz { H with ai:=H.ai.set m (Cq x g k) } io b)=tO (pz H io b) m x g k:=by
 cases io
 exact (kU (pz H false b) m x g k).symm
 exact (kU (pz H true b) m x g k).symm
theorem Zv (hn:cM h m g=true∧(need=1 ∨ need=2)) (hq:bB (dB h m.toNat g.toNat).Live ag need=some q) (h1:oH (hD h m q need) false m g ag need=none) 
  (hm:MS (hD h m q need) m.toNat g.toNat ag q.toNat need x k y) (hl:lets (ask (kept (hD h m q need) m.toNat g.toNat) ag) need=false):
  aq (((find h m g ag need false).map fun q=>q.1).getD h)=tO { cP (hD h m q need) m.toNat q.toNat need with Buffer:=ic (cP (hD h m q need) m.toNat q.toNat need).Buffer ⟨cq m g,ag,((ask (eX k y.Live x.ak ag) ag).getD bE).aN,((ask (eX k y.Live x.ak ag) ag).getD bE).bf⟩ } m.toNat x g.toNat (eX k y.Live x.ak ag):=by
 rw [Cr hn hq h1 hm hl]
 exact Pa (cP (hD h m q need) m.toNat q.toNat need) false _ m.toNat x g.toNat (eX k y.Live x.ak ag)
theorem Zw (hn:cM h m g=true∧(need=1 ∨ need=2)) (hq:bB (dB h m.toNat g.toNat).Live ag need=some q) (h1:oH (hD h m q need) true m g ag need=none) 
  (hm:MS (hD h m q need) m.toNat g.toNat ag q.toNat need x k y) (hl:lets (ask (kept (hD h m q need) m.toNat g.toNat) ag) need=false):
  aq (((find h m g ag need true).map fun q=>q.1).getD h)=tO { cP (hD h m q need) m.toNat q.toNat need with aD:=ic (cP (hD h m q need) m.toNat q.toNat need).aD ⟨cq m g,ag,((ask (eX k y.Live x.ak ag) ag).getD bE).aN,((ask (eX k y.Live x.ak ag) ag).getD bE).bf⟩ } m.toNat x g.toNat (eX k y.Live x.ak ag):=by
 rw [Cr hn hq h1 hm hl]
 exact Pa (cP (hD h m q need) m.toNat q.toNat need) true _ m.toNat x g.toNat (eX k y.Live x.ak ag)
theorem Pb (hn:cM h m g=true∧(need=1 ∨ need=2)) (hq:bB (dB h m.toNat g.toNat).Live ag need=some q) (h1:oH (hD h m q need) io m g ag need=none) 
  (hk:kept (hD h m q need) m.toNat g.toNat=k) (hl:lets (ask (kept (hD h m q need) m.toNat g.toNat) ag) need=true):
  find h m g ag need io=some (pz (hD h m q need) io (ic (qG (hD h m q need) io) ⟨cq m g,ag,((ask k ag).getD bE).aN,((ask k ag).getD bE).bf⟩),((ask k ag).getD bE).aN):=by
 rw [va hn hq h1]
 unfold eF sF hF
 rw [pP hl,hk]
theorem wN (h:ap) (m:Int) (g:Int) (ag:Int) (need:Int) [Q (aj h)]:ng Tryz.prog 357 (aq h) [.one (.agg [.ref ⟨1000000,[],0⟩, .ref ⟨1000000,[],1⟩, .ref ⟨1000000,[],2⟩, .ref ⟨1000000,[],3⟩]), .one (.c (.ref ⟨1000000,[],3⟩)),I m,I g,I ag,I need,B true] (RG [.a (aq (((find h m g ag need true).map fun q=>q.1).getD h)), .c (.v (.int .i64 (((find h m g ag need true).map fun q=>q.2).getD (-1)))), .c (.v (.bool (find h m g ag need true).isSome))]):=by
 refine ng.wJ 210 Tryz.func357 fun w g0 _=> ?_
 have K4:=(inferInstance:cX h.ai 1048576).h
 refine JW.cut 2 [1,2,3,4,5,6] [] [14,7] (fun (_u:Unit)=>[.set 7 (.one (.ptr ⟨7,[],0⟩)), .set 14 (.one (.ptr ⟨14,[],0⟩))]) (fun (_u:Unit)=>[(14,⟨true,[.own (.sl 1 []), .own (.sl 9 []), .own (.sl 4 []), .own (.sl 4 [])]⟩),(7,⟨true,[.ref ⟨1000000,[],0⟩, .ref ⟨1000000,[],1⟩, .ref ⟨1000000,[],2⟩, .ref ⟨1000000,[],3⟩]⟩)]) (fun (_u:Unit)=>cM h m g=true∧(need=1 ∨ need=2)) (by exact rfl) ?_
 refine ⟨fun J1 sY=> ?_,fun _u vf=> ?_⟩
 ·refine ah (lA h).k ?_
  refine aB ?_ ?_ <;> intro gK
  ·refine sY _ _ _ ?_
   exact (by rw [show find h m g ag need true=none from jl (by exact Ip (by simpa using gK))];rfl)
  ·refine len ?_
   refine cg ?_
   refine ah (aE _ _ _).k ?_
   refine aB ?_ ?_ <;> intro Y3
   ·refine sY _ _ _ ?_
    exact (by rw [show find h m g ag need true=none from jl (by intro e;have e2:=bW.1 e.1;omega)];rfl)
   ·have hx0:h.ai[m.toNat]? = some (cK h m.toNat):=cO (by omega)
    have qm0:Q (bt (cK h m.toNat)):=⟨jW.h _ (aH hx0)⟩
    have hlg:=(inferInstance:cX (cK h m.toNat).aa 1048576).h
    refine bl ?_
    refine aL ‹_› ?_
    refine aL ‹_› ?_
    refine len ?_
    refine cg ?_
    refine ah (aE _ _ _).k ?_
    refine aB ?_ ?_ <;> intro hg25
    ·refine sY _ _ _ ?_
     exact (by rw [show find h m g ag need true=none from jl (by intro e;have e2:=bW.1 e.1;omega)];rfl)
    ·refine aB ?_ ?_ <;> intro hg28
     ·refine aB ?_ ?_ <;> intro hb
      ·refine sY _ _ _ ?_
       exact (by rw [show find h m g ag need true=none from jl (by intro e;have e2:=bW.1 e.1;omega)];rfl)
      ·refine sY _ _ _ ?_
       exact ⟨(),⟨bW.2 ⟨by simpa using gK,by omega,by omega⟩,by omega⟩,(by repeat' first|exact rfl|constructor)⟩
     ·refine sY _ _ _ ?_
      exact ⟨(),⟨bW.2 ⟨by simpa using gK,by omega,by omega⟩,by omega⟩,(by repeat' first|exact rfl|constructor)⟩
 have Iq:=bW.1 vf.1
 have hx0:=cO Iq.2.1
 have oR:=eE Iq.1 hx0
 have hmo:=dZ oR
 obtain ⟨y,hy⟩:∃ y,(cK h m.toNat).aa[g.toNat]? = some y:=⟨_,bg (by omega)⟩
 have qU:dB h m.toNat g.toNat=y:=kv hx0 hy
 have D5:bT y=true:=(by simp only [fy,bh] at oR;exact eY.1 oR.1.1.2 y (aH hy))
 have hml:=(aM.1 hx0).1
 have QC:=(aM.1 hy).1
 have u5:Q (bt (cK h m.toNat)):=⟨jW.h _ (aH hx0)⟩
 have qy:Q (aJ y):=⟨jW.h y (aH hy)⟩
 refine JW.cut 4 [1,2,3,4,5,6,7,14] [] [1000000] (fun (q:Int)=>[.set 17 (I q), .set 19 (I (cq m g))]) (fun (q:Int)=>[(1000000,⟨false,[.own (.sl 1 ((hD h m q need).au.map aP)), .own (.sl 9 ((hD h m q need).ai.map bA)), .own (.sl 4 ((hD h m q need).Buffer.map aC)), .own (.sl 4 ((hD h m q need).aD.map aC))]⟩)]) (fun (q:Int)=>bB (dB h m.toNat g.toNat).Live ag need=some q∧0 ≤ q∧q < 8) (by exact rfl) ?_
 refine ⟨fun J2 Dk=> ?_,fun q hj2=> ?_⟩
 ·refine bl ?_
  refine aL ‹_› ?_
  refine aL ‹_› ?_
  refine bl ?_
  refine aL ‹_› ?_
  refine aL ‹_› ?_
  refine an (uN y.Live ag need).k ?_
  refine aB ?_ ?_ <;> intro iz
  ·refine Dk _ _ _ ?_
   exact (by rw [show find h m g ag need true=none from FK vf qU ‹_›];rfl)
  ·refine ah (rF m g).k ?_
   have Q7:=zi (by assumption:(bB y.Live ag need).isSome=true)
   have Xh:=pN D5 Q7
   refine aB ?_ ?_ <;> intro tr
   ·refine bl ?_
    refine aL ‹_› ?_
    refine aL ‹_› ?_
    refine bl ?_
    refine aL ‹_› ?_
    refine sn (fun z10 hz10 qz10 lz10=> ?_)
    refine Dk _ _ _ ?_
    exact ⟨((bB y.Live ag need).getD (-1)),⟨by rw [qU];exact Q7,Xh⟩,(by repeat' first|exact rfl|constructor|(refine dL ?_;exact congrArg (fun l:List D=>(⟨false,l.map C.own⟩:Rt)) (zf (by exact hx0) (by omega));done))⟩
   ·refine Dk _ _ _ ?_
    exact ⟨((bB y.Live ag need).getD (-1)),⟨by rw [qU];exact Q7,Xh⟩,(by repeat' first|exact rfl|constructor|(refine dL ?_;exact congrArg (fun l:List D=>(⟨false,l.map C.own⟩:Rt)) (zg (by omega));done))⟩
 have Xi:=(by assumption:Q (aj h)).h
 obtain ⟨x,z,k,y2,fE,Zo⟩:=y7 (need:=need) vf.1 Xi hj2.2
 have qd:Q (aj (hD h m q need)):=fE.hs.q
 refine JW.cut 2 [2,3,4,5,6,7,14,17,19] [] [20] (fun (_u:Unit)=>[.set 20 (.one (.ptr ⟨20,[],0⟩))]) (fun (_u:Unit)=>[(20,⟨true,[.own (.v (.int .i64 ((cR (hD h m q need).aD (cq m g) ag).getD Oa).Tag)), .own (.v (.int .i64 ((cR (hD h m q need).aD (cq m g) ag).getD Oa).aN)), .own (.v (.int .i64 ((cR (hD h m q need).aD (cq m g) ag).getD Oa).Host)), .own (.v (.int .i64 ((cR (hD h m q need).aD (cq m g) ag).getD Oa).bf))]⟩)]) (fun (_u:Unit)=>oH (hD h m q need) true m g ag need=none) (by exact rfl) ?_
 refine ⟨fun J3 Q8=> ?_,fun _u Xj=> ?_⟩
 ·refine an (uY (hD h m q need).aD (cq m g) ag).k ?_
  refine aB ?_ ?_ <;> intro hg1
  ·refine ah (lz _ _).k ?_
   refine aB ?_ ?_ <;> intro AJ
   ·refine gp [0,1,2,3] [] [] (.fork (.alt 0 (.fork (.alt 1 (.fork (.alt 2 (.fa 3 (.quiet 4 0 (.quiet 5 0 .done))) (.alt 3 (.fa 2 (.quiet 4 0 (.quiet 5 0 .done))) .stop))) (.alt 3 (.fa 1 (.fa 2 (.quiet 4 0 (.quiet 5 0 .done)))) .stop))) (.alt 1 (.fork (.alt 0 (.fork (.alt 2 (.fa 3 (.quiet 4 0 (.quiet 5 0 .done))) (.alt 3 (.fa 2 (.quiet 4 0 (.quiet 5 0 .done))) .stop))) (.alt 2 (.fa 0 (.fa 3 (.quiet 4 0 (.quiet 5 0 .done)))) .stop))) .stop))) ?_
    repeat' first|exact True.intro|refine And.intro ?_ ?_
    all_goals (
     refine Q8 _ _ _ ?_
     exact (by rw [show find h m g ag need true=_ from FL vf hj2.1 ‹_› ‹_›];rfl))
   ·refine Q8 _ _ _ ?_
    exact ⟨(),(yj (by right;assumption)),(by repeat' first|exact rfl|constructor)⟩
  ·refine Q8 _ _ _ ?_
   exact ⟨(),(yj (by left;assumption)),(by repeat' first|exact rfl|constructor)⟩
 obtain ⟨x2,k2,hme⟩:=Dr (ag:=ag) (need:=need) fE
 have hkk:=vT fE.hx fE.hk
 have qk:Q (dR k):=⟨(fE.hs.sm fE.hx).2.2.2.2.2.2 k (aH fE.hk)⟩
 have qk2:Q (dR k2):=⟨(hme.hs.sm hme.hx).2.2.2.2.2.2 k2 (aH hme.hk)⟩
 have qm:Q (aj (cP (hD h m q need) m.toNat q.toNat need)):=hme.hs.q
 have qx2:Q (bt x2):=⟨hme.hs.sm hme.hx⟩
 have hax:(hD h m q need).ai[m.toNat]? = some x:=fE.hx
 have hak:=fE.hk
 have I4:(cP (hD h m q need) m.toNat q.toNat need).ai[m.toNat]? = some x2:=hme.hx
 have hbk:=hme.hk
 have hby:=hme.hy
 have qx1:Q (bt x):=⟨fE.hs.sm fE.hx⟩
 have l1:=(aM.1 hax).1
 have l2:=(aM.1 hak).1
 have l3:=(aM.1 I4).1
 have l4:=(aM.1 hbk).1
 have l5:=(aM.1 hby).1
 have l6:m.toNat < ((cP (hD h m q need) m.toNat q.toNat need).ai.map bA).length:=by rw [aI];exact l3
 have l7:g.toNat < (x2.Tables.map cz).length:=by rw [aI];exact l4
 refine JW.cut 2 [4,6,7,14,15,16,19,20] [] [22,7,1000000] (fun (c:Bool)=>[.set 22 (.one (.ptr ⟨22,[],0⟩))]) (fun (c:Bool)=>[(22,⟨true,[.own (.v (.int .i64 (bif c then ((ask (eX k2 y2.Live x2.ak ag) ag).getD bE) else ((ask k ag).getD bE)).aN)), .own (.v (.int .i64 (bif c then ((ask (eX k2 y2.Live x2.ak ag) ag).getD bE) else ((ask k ag).getD bE)).bf))]⟩),(7,⟨true,bif c then List.map C.own (tO (cP (hD h m q need) m.toNat q.toNat need) m.toNat x2 g.toNat (eX k2 y2.Live x2.ak ag)) else [.ref ⟨1000000,[],0⟩, .ref ⟨1000000,[],1⟩, .ref ⟨1000000,[],2⟩, .ref ⟨1000000,[],3⟩]⟩),(1000000,⟨false,bif c then [.own .hole, .own .hole, .own .hole, .own .hole] else [.own (.sl 1 ((hD h m q need).au.map aP)), .own (.sl 9 ((hD h m q need).ai.map bA)), .own (.sl 4 ((hD h m q need).Buffer.map aC)), .own (.sl 4 ((hD h m q need).aD.map aC))]⟩)]) (fun (c:Bool)=>lets (ask (kept (hD h m q need) m.toNat g.toNat) ag) need= !c) (by exact rfl) ?_
 refine ⟨fun J4 MT=> ?_,fun c Zu=> ?_⟩
 ·refine bl ?_
  refine aL ‹_› ?_
  refine aL ‹_› ?_
  refine bl ?_
  refine aL ‹_› ?_
  refine aL ‹_› ?_
  refine an (mc k ag).k ?_
  refine aB ?_ ?_ <;> intro oe
  ·refine kf [(1000000,0),(1000000,1),(1000000,2),(1000000,3)] (oI (mi:=m) (pi:=q) (row:=aq (hD h m q need)) (hD h m q need) m.toNat x q.toNat z need (by omega) (by omega) rfl (by omega) fE.hs fE.ha fE.hx fE.hz fE.uo) ?_
   refine cI [35] [(0,0),(1,0),(2,0),(3,0),(4,0),(5,0),(6,0),(7,0),(8,0),(9,0),(10,0),(11,0),(12,0),(13,0),(14,0),(15,0),(16,0),(17,0),(18,0),(19,0),(20,0),(21,0),(22,0),(23,0),(24,0),(25,0),(26,0),(27,0),(28,0),(29,0),(30,0),(31,0),(32,0),(33,1),(34,0),(35,1)] ?_
   refine bl ?_
   refine aL ‹_› ?_
   refine bl ?_
   refine aL ‹_› ?_
   refine aL ‹_› ?_
   refine bl ?_
   refine aL ‹_› ?_
   refine aL ‹_› ?_
   refine bl ?_
   refine aL ‹_› ?_
   refine aL ‹_› ?_
   refine bl ?_
   refine aL ‹_› ?_
   refine aL ‹_› ?_
   refine bl ?_
   refine aL ‹_› ?_
   refine an (n_ k2 y2.Live x2.ak ag).k ?_
   refine aL ‹_› ?_
   refine bl ?_
   refine aL ‹_› ?_
   refine aL ‹_› ?_
   refine bl ?_
   refine cJ ?_
   refine cJ ?_
   refine bl ?_
   refine cJ ?_
   refine cJ ?_
   refine an (mc (eX k2 y2.Live x2.ak ag) ag).k ?_ (by repeat first|exact rfl|refine fi.mk (by exact WD.w) ?_|refine cJ ?_)
   refine MT _ _ _ ?_
   exact ⟨true,(jm (by rw [hkk];(left;assumption))),(by repeat' first|exact rfl|constructor)⟩
  ·refine aB ?_ ?_ <;> intro GO
   ·refine kf [(1000000,0),(1000000,1),(1000000,2),(1000000,3)] (oI (mi:=m) (pi:=q) (row:=aq (hD h m q need)) (hD h m q need) m.toNat x q.toNat z need (by omega) (by omega) rfl (by omega) fE.hs fE.ha fE.hx fE.hz fE.uo) ?_
    refine cI [35] [(0,0),(1,0),(2,0),(3,0),(4,0),(5,0),(6,0),(7,0),(8,0),(9,0),(10,0),(11,0),(12,0),(13,0),(14,0),(15,0),(16,0),(17,0),(18,0),(19,0),(20,0),(21,0),(22,0),(23,0),(24,0),(25,0),(26,0),(27,0),(28,0),(29,0),(30,0),(31,0),(32,0),(33,1),(34,0),(35,1)] ?_
    refine bl ?_
    refine aL ‹_› ?_
    refine bl ?_
    refine aL ‹_› ?_
    refine aL ‹_› ?_
    refine bl ?_
    refine aL ‹_› ?_
    refine aL ‹_› ?_
    refine bl ?_
    refine aL ‹_› ?_
    refine aL ‹_› ?_
    refine bl ?_
    refine aL ‹_› ?_
    refine aL ‹_› ?_
    refine bl ?_
    refine aL ‹_› ?_
    refine an (n_ k2 y2.Live x2.ak ag).k ?_
    refine aL ‹_› ?_
    refine bl ?_
    refine aL ‹_› ?_
    refine aL ‹_› ?_
    refine bl ?_
    refine cJ ?_
    refine cJ ?_
    refine bl ?_
    refine cJ ?_
    refine cJ ?_
    refine an (mc (eX k2 y2.Live x2.ak ag) ag).k ?_ (by repeat first|exact rfl|refine fi.mk (by exact WD.w) ?_|refine cJ ?_)
    refine MT _ _ _ ?_
    exact ⟨true,(jm (by rw [hkk];(right;left;assumption))),(by repeat' first|exact rfl|constructor)⟩
   ·refine ah (lz _ _).k ?_
    refine aB ?_ ?_ <;> intro D0
    ·refine kf [(1000000,0),(1000000,1),(1000000,2),(1000000,3)] (oI (mi:=m) (pi:=q) (row:=aq (hD h m q need)) (hD h m q need) m.toNat x q.toNat z need (by omega) (by omega) rfl (by omega) fE.hs fE.ha fE.hx fE.hz fE.uo) ?_
     refine cI [35] [(0,0),(1,0),(2,0),(3,0),(4,0),(5,0),(6,0),(7,0),(8,0),(9,0),(10,0),(11,0),(12,0),(13,0),(14,0),(15,0),(16,0),(17,0),(18,0),(19,0),(20,0),(21,0),(22,0),(23,0),(24,0),(25,0),(26,0),(27,0),(28,0),(29,0),(30,0),(31,0),(32,0),(33,1),(34,0),(35,1)] ?_
     refine bl ?_
     refine aL ‹_› ?_
     refine bl ?_
     refine aL ‹_› ?_
     refine aL ‹_› ?_
     refine bl ?_
     refine aL ‹_› ?_
     refine aL ‹_› ?_
     refine bl ?_
     refine aL ‹_› ?_
     refine aL ‹_› ?_
     refine bl ?_
     refine aL ‹_› ?_
     refine aL ‹_› ?_
     refine bl ?_
     refine aL ‹_› ?_
     refine an (n_ k2 y2.Live x2.ak ag).k ?_
     refine aL ‹_› ?_
     refine bl ?_
     refine aL ‹_› ?_
     refine aL ‹_› ?_
     refine bl ?_
     refine cJ ?_
     refine cJ ?_
     refine bl ?_
     refine cJ ?_
     refine cJ ?_
     refine an (mc (eX k2 y2.Live x2.ak ag) ag).k ?_ (by repeat first|exact rfl|refine fi.mk (by exact WD.w) ?_|refine cJ ?_)
     refine MT _ _ _ ?_
     exact ⟨true,(jm (by rw [hkk];(right;right;assumption))),(by repeat' first|exact rfl|constructor)⟩
    ·refine MT _ _ _ ?_
     exact ⟨false,(by rw [hkk];exact vb ‹_› ‹_› ‹_›),(by repeat' first|exact rfl|constructor)⟩
 cases c
 ·refine JW.w ?_
  refine bu (nL (hD h m q need).aD ⟨cq m g,ag,((ask k ag).getD bE).aN,((ask k ag).getD bE).bf⟩).k ?_
  refine gp [0,1,2,3] [] [] (.fork (.alt 0 (.fork (.alt 1 (.fork (.alt 2 (.fa 3 (.quiet 4 0 (.quiet 5 0 .done))) (.alt 3 (.fa 2 (.quiet 4 0 (.quiet 5 0 .done))) .stop))) (.alt 3 (.fa 1 (.fa 2 (.quiet 4 0 (.quiet 5 0 .done)))) .stop))) (.alt 1 (.fork (.alt 0 (.fork (.alt 2 (.fa 3 (.quiet 4 0 (.quiet 5 0 .done))) (.alt 3 (.fa 2 (.quiet 4 0 (.quiet 5 0 .done))) .stop))) (.alt 2 (.fa 0 (.fa 3 (.quiet 4 0 (.quiet 5 0 .done)))) .stop))) .stop))) ?_
  repeat' first|exact True.intro|refine And.intro ?_ ?_
  all_goals exact (by rw [show find h m g ag need true=_ from Pb vf hj2.1 Xj hkk Zu];rfl)
 ·refine JW.w ?_
  refine bu (nL (cP (hD h m q need) m.toNat q.toNat need).aD ⟨cq m g,ag,((ask (eX k2 y2.Live x2.ak ag) ag).getD bE).aN,((ask (eX k2 y2.Live x2.ak ag) ag).getD bE).bf⟩).k ?_
  refine gp [0,1,2,3] [] [] (.fork (.alt 0 (.fork (.alt 1 (.fork (.alt 2 (.fa 3 (.quiet 4 0 (.quiet 5 0 .done))) (.alt 3 (.fa 2 (.quiet 4 0 (.quiet 5 0 .done))) .stop))) (.alt 3 (.fa 1 (.fa 2 (.quiet 4 0 (.quiet 5 0 .done)))) .stop))) (.alt 1 (.fork (.alt 0 (.fork (.alt 2 (.fa 3 (.quiet 4 0 (.quiet 5 0 .done))) (.alt 3 (.fa 2 (.quiet 4 0 (.quiet 5 0 .done))) .stop))) (.alt 2 (.fa 0 (.fa 3 (.quiet 4 0 (.quiet 5 0 .done)))) .stop))) .stop))) ?_
  repeat' first|exact True.intro|refine And.intro ?_ ?_
  all_goals exact (by rw [Zw vf hj2.1 Xj hme Zu,show find h m g ag need true=_ from Cr vf hj2.1 Xj hme Zu];rfl)
end
section
variable {m t:Int} {h:ap}
set_option maxRecDepth 100000
set_option maxHeartbeats 8000000
theorem vc (hn:¬ (eu h=true∧(0 ≤ m∧m < h.ai.length)∧0 ≤ t∧t ≤ 3)):jd h m t=none:=by
 unfold jd
 rw [if_neg]
 intro e
 simp only [bh,decide_eq_true_eq] at e
 exact hn ⟨(uQ.1 e.1).1,(uQ.1 e.1).2,e.2⟩
theorem K6 (hn:eu h=true∧(0 ≤ m∧m < h.ai.length)∧0 ≤ t∧t ≤ 3):jd h m t=some (fT h m.toNat { cK h m.toNat with bn:=t }):=by
 unfold jd
 rw [if_pos]
 simp only [bh,decide_eq_true_eq]
 exact ⟨uQ.2 ⟨hn.1,hn.2.1⟩,hn.2.2⟩
abbrev SH (h:ap) (m:Nat) (x:aV) (t:Int):List D:=[.sl 1 (h.au.map aP), .sl 9 ((h.ai.map bA).set m (.st [.sl 2 (x.ak.map aT), .sl 1 (x.Out.map aP), .sl 1 (x.bI.map bO), .sl 15 (x.aa.map bp), .sl 1 (x.cm.map bS), .v (.int .i64 x.av), .v (.int .i64 t), .sl 2 (x.Tables.map cz), .v (.int .i64 x.Own)])), .sl 4 (h.Buffer.map aC), .sl 4 (h.aD.map aC)]
theorem Is (h:ap) (m:Nat) (x:aV) (t:Int):SH h m x t=aq (fT h m { x with bn:=t }):=by
 have e:bA { x with bn:=t }= .st [.sl 2 (x.ak.map aT), .sl 1 (x.Out.map aP), .sl 1 (x.bI.map bO), .sl 15 (x.aa.map bp), .sl 1 (x.cm.map bS), .v (.int .i64 x.av), .v (.int .i64 t), .sl 2 (x.Tables.map cz), .v (.int .i64 x.Own)]:=rfl
 unfold SH fT
 show _=[_,D.sl 9 ((h.ai.set m { x with bn:=t }).map bA),_,_]
 rw [bL,e]
theorem Af (h:ap) (m:Int) (g:Int) (ag:Int) (need:Int) [Q (aj h)]:aF Tryz.prog 259 [A (aq h),I m,I g,I ag,I need] (RG [.a (aq (((find h m g ag need false).map fun q=>q.1).getD h)), .c (.v (.int .i64 (((find h m g ag need false).map fun q=>q.2).getD (-1)))), .c (.v (.bool (find h m g ag need false).isSome))]):=by
 refine aF.w 22 Tryz.func259 fun w g0 _=> ?_
 refine an (JC h m g ag need).k ?_
 exact rfl
theorem wO (h:ap) (m:Int) (g:Int) (ag:Int) (need:Int) [Q (aj h)]:aF Tryz.prog 293 [A (aq h),I m,I g,I ag,I need] (RG [.a (aq (((find h m g ag need true).map fun q=>q.1).getD h)), .c (.v (.int .i64 (((find h m g ag need true).map fun q=>q.2).getD (-1)))), .c (.v (.bool (find h m g ag need true).isSome))]):=by
 refine aF.w 22 Tryz.func293 fun w g0 _=> ?_
 refine an (Ir h m g ag need).k ?_
 exact rfl
theorem ER (h:ap) (m:Int) (t:Int) [Q (aj h)]:aF Tryz.prog 334 [A (aq h),I m,I t] (RG [.a (aq ((jd h m t).getD h)), .c (.v (.bool (jd h m t).isSome))]):=by
 refine aF.w 35 Tryz.func334 fun w g0 hM=> ?_
 have K4:=(inferInstance:cX h.ai 1048576).h
 have eW:=hM.1.2.1.map
 refine an (cF h).k ?_
 refine ah (lA h).k ?_
 refine aB ?_ ?_ <;> intro gK
 exact (by rw [vc (by intro e;have e2:=e.1;simp_all;done)];rfl)
 refine len ?_
 refine cg ?_
 refine ah (aE _ _ _).k ?_
 refine aB ?_ ?_ <;> intro Y3
 exact (by rw [vc (by first|(intro e;have e2:=e.1;simp_all;done)|(intro e;omega))];rfl)
 refine ah (aE _ _ _).k ?_
 refine aB ?_ ?_ <;> intro hb
 exact (by rw [vc (by intro e;have e2:=e.1;simp_all;done)];rfl)
 have hx0:=cO (h:=h) (m:=m) (by omega)
 have hml:=(aM.1 hx0).1
 have nW:m.toNat < (h.ai.map bA).length:=by rw [aI];exact hml
 have u5:Q (bt (cK h m.toNat)):=⟨jW.h _ (aH hx0)⟩
 first|refine dM ‹_› ?_|refine di ?_|refine bl ?_
 first|refine cJ ?_|refine aL ‹_› ?_
 exact (by rw [K6 ⟨by assumption,by omega,by omega⟩,show aq ((some (fT h m.toNat { cK h m.toNat with bn:=t })).getD h)=_ from (Is h m.toNat (cK h m.toNat) t).symm];rfl)
theorem ES (h:ap) (m:Int) (t:Int) [Q (aj h)]:aF Tryz.prog 175 [A (aq h),I m,I t] (RG [.a (aq ((jd h m t).getD h)), .c (.v (.bool (jd h m t).isSome))]):=by
 refine aF.w 35 Tryz.func175 fun w g0 hM=> ?_
 have K4:=(inferInstance:cX h.ai 1048576).h
 have eW:=hM.1.2.1.map
 refine an (aY h).k ?_
 refine ah (gX h).k ?_
 refine aB ?_ ?_ <;> intro gK
 exact (by rw [vc (by intro e;have e2:=e.1;simp_all;done)];rfl)
 refine len ?_
 refine ah (bM _ _).k ?_
 refine aB ?_ ?_ <;> intro hg11
 exact (by rw [vc (by intro e;have e2:=e.1;simp_all;done)];rfl)
 refine ah (aU _ _ _).k ?_
 refine aB ?_ ?_ <;> intro hb
 exact (by rw [vc (by intro e;have e2:=e.1;simp_all;done)];rfl)
 have hx0:=cO (h:=h) (m:=m) (by omega)
 have hml:=(aM.1 hx0).1
 have nW:m.toNat < (h.ai.map bA).length:=by rw [aI];exact hml
 have u5:Q (bt (cK h m.toNat)):=⟨jW.h _ (aH hx0)⟩
 first|refine dM ‹_› ?_|refine di ?_|refine bl ?_
 first|refine cJ ?_|refine aL ‹_› ?_
 exact (by rw [K6 ⟨by assumption,by omega,by omega⟩,show aq ((some (fT h m.toNat { cK h m.toNat with bn:=t })).getD h)=_ from (Is h m.toNat (cK h m.toNat) t).symm];rfl)
end
end Go.Proofs.YtdliggkohdnipaaGreat.T
