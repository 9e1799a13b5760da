import Derived.Test.YtdliggkohdnipaaGreatPqr
set_option linter.unusedVariables false
set_option linter.unusedSimpArgs false
namespace Go.Proofs.YtdliggkohdnipaaGreat.T
open Go
section
variable {io:Bool} {g m need ag q:Int} {y:av} {h:an} {k:bQ} {x:aO}
set_option maxRecDepth 100000
set_option maxHeartbeats 8000000
theorem nu {row:List D} {mi pi:Int} (h:an) (m:Nat) (x:aO) (p:Nat) (z:aL) (need:Int) (Bj:mi=m) (Fy:pi=p) (hr:row=aq h) (hn:0 ≤ need∧need ≤ 3) (hs:nD h) (ha:jE h) (hx:h.ap[m]? = some x) (hz:x.ai[p]? = some z) (sH:Wd z):
  lO Tryz.prog 353 row [.one (.agg [.ref ⟨1000000,[],0⟩, .ref ⟨1000000,[],1⟩, .ref ⟨1000000,[],2⟩, .ref ⟨1000000,[],3⟩]),I mi,I pi,I need] (RG [.a (aq (cL h m p need))]):=by
 subst hr Bj Fy
 exact F9 h m x p z need hn hs ha hx hz sH
theorem A9 (hn:cG h m g=true∧(need=1 ∨ need=2)) (hq:bn (c9 h m.toNat g.toNat).Live ag need=some q) (h1:nt (hD h m q need) io m g ag need=none) 
  (hm:Lk (hD h m q need) m.toNat g.toNat ag q.toNat need x k y) (hl:lets (ask (kept (hD h m q need) m.toNat g.toNat) ag) need=false):
  find h m g ag need io=some (o7 { cL (hD h m q need) m.toNat q.toNat need with ap:=(cL (hD h m q need) m.toNat q.toNat need).ap.set m.toNat (A8 x g.toNat (eg k y.Live x.ai ag)) } io (gC (oK (cL (hD h m q need) m.toNat q.toNat need) io) ⟨bZ m g,ag,((ask (eg k y.Live x.ai ag) ag).getD bu).aJ,((ask (eg k y.Live x.ai ag) ag).getD bu).aT⟩),((ask (eg k y.Live x.ai ag) ag).getD bu).aJ):=by
 rw [tt hn hq h1]
 have h2:=hm.hf hl
 unfold eF sF hF
 rw [h2.2,h2.1]
 rfl
theorem NB (H:an) (io:Bool) (b:List bt) (m:Nat) (x:aO) (g:Nat) (k:bQ):aq (o7 { H with ap:=H.ap.set m (A8 x g k) } io b)=r7 (o7 H io b) m x g k:=by
 cases io
 exact (jX (o7 H false b) m x g k).symm
 exact (jX (o7 H true b) m x g k).symm
theorem XM (hn:cG h m g=true∧(need=1 ∨ need=2)) (hq:bn (c9 h m.toNat g.toNat).Live ag need=some q) (h1:nt (hD h m q need) false m g ag need=none) 
  (hm:Lk (hD h m q need) m.toNat g.toNat ag q.toNat need x k y) (hl:lets (ask (kept (hD h m q need) m.toNat g.toNat) ag) need=false):
  aq (((find h m g ag need false).map fun q=>q.1).getD h)=r7 { cL (hD h m q need) m.toNat q.toNat need with Buffer:=gC (cL (hD h m q need) m.toNat q.toNat need).Buffer ⟨bZ m g,ag,((ask (eg k y.Live x.ai ag) ag).getD bu).aJ,((ask (eg k y.Live x.ai ag) ag).getD bu).aT⟩ } m.toNat x g.toNat (eg k y.Live x.ai ag):=by
 rw [A9 hn hq h1 hm hl]
 exact NB (cL (hD h m q need) m.toNat q.toNat need) false _ m.toNat x g.toNat (eg k y.Live x.ai ag)
theorem XN (hn:cG h m g=true∧(need=1 ∨ need=2)) (hq:bn (c9 h m.toNat g.toNat).Live ag need=some q) (h1:nt (hD h m q need) true m g ag need=none) 
  (hm:Lk (hD h m q need) m.toNat g.toNat ag q.toNat need x k y) (hl:lets (ask (kept (hD h m q need) m.toNat g.toNat) ag) need=false):
  aq (((find h m g ag need true).map fun q=>q.1).getD h)=r7 { cL (hD h m q need) m.toNat q.toNat need with aC:=gC (cL (hD h m q need) m.toNat q.toNat need).aC ⟨bZ m g,ag,((ask (eg k y.Live x.ai ag) ag).getD bu).aJ,((ask (eg k y.Live x.ai ag) ag).getD bu).aT⟩ } m.toNat x g.toNat (eg k y.Live x.ai ag):=by
 rw [A9 hn hq h1 hm hl]
 exact NB (cL (hD h m q need) m.toNat q.toNat need) true _ m.toNat x g.toNat (eg k y.Live x.ai ag)
theorem NC (hn:cG h m g=true∧(need=1 ∨ need=2)) (hq:bn (c9 h m.toNat g.toNat).Live ag need=some q) (h1:nt (hD h m q need) io m g ag need=none) 
  (hk:kept (hD h m q need) m.toNat g.toNat=k) (hl:lets (ask (kept (hD h m q need) m.toNat g.toNat) ag) need=true):
  find h m g ag need io=some (o7 (hD h m q need) io (gC (oK (hD h m q need) io) ⟨bZ m g,ag,((ask k ag).getD bu).aJ,((ask k ag).getD bu).aT⟩),((ask k ag).getD bu).aJ):=by
 rw [tt hn hq h1]
 unfold eF sF hF
 rw [n7 hl,hk]
theorem uX (h:an) (m:Int) (g:Int) (ag:Int) (need:Int) [Q (aj h)]:lO Tryz.prog 357 (aq h) [.one (.agg [.ref ⟨1000000,[],0⟩, .ref ⟨1000000,[],1⟩, .ref ⟨1000000,[],2⟩, .ref ⟨1000000,[],3⟩]), .one (.c (.ref ⟨1000000,[],3⟩)),I m,I g,I ag,I need,B true] (RG [.a (aq (((find h m g ag need true).map fun q=>q.1).getD h)), .c (.v (.int .i64 (((find h m g ag need true).map fun q=>q.2).getD (-1)))), .c (.v (.bool (find h m g ag need true).isSome))]):=by
 refine lO.wJ 210 Tryz.func357 fun w g0 _=> ?_
 have LK:=(inferInstance:dc h.ap 1048576).h
 refine JW.cut 2 [1,2,3,4,5,6] [] [14,7] (fun (_u:Unit)=>[.set 7 (.one (.ptr ⟨7,[],0⟩)), .set 14 (.one (.ptr ⟨14,[],0⟩))]) (fun (_u:Unit)=>[(14,⟨true,[.own (.sl 1 []), .own (.sl 9 []), .own (.sl 4 []), .own (.sl 4 [])]⟩),(7,⟨true,[.ref ⟨1000000,[],0⟩, .ref ⟨1000000,[],1⟩, .ref ⟨1000000,[],2⟩, .ref ⟨1000000,[],3⟩]⟩)]) (fun (_u:Unit)=>cG h m g=true∧(need=1 ∨ need=2)) (by exact rfl) ?_
 refine ⟨fun J1 tn=> ?_,fun _u uW=> ?_⟩
 ·refine ah (ko h).k ?_
  refine aB ?_ ?_ <;> intro gm
  ·refine tn _ _ _ ?_
   exact (by rw [show find h m g ag need true=none from iD (by exact Gx (by simpa using gm))];rfl)
  ·refine len ?_
   refine cD ?_
   refine ah (aE _ _ _).k ?_
   refine aB ?_ ?_ <;> intro hg12
   ·refine tn _ _ _ ?_
    exact (by rw [show find h m g ag need true=none from iD (by intro e;have e2:=bO.1 e.1;omega)];rfl)
   ·have hx0:h.ap[m.toNat]? = some (cE h m.toNat):=cC (by omega)
    have qm0:Q (bf (cE h m.toNat)):=⟨j6.h _ (List.mem_of_getElem? hx0)⟩
    have hlg:=(inferInstance:dc (cE h m.toNat).aa 1048576).h
    refine aZ ?_
    refine aI (by assumption) ?_
    refine aI (by assumption) ?_
    refine len ?_
    refine cD ?_
    refine ah (aE _ _ _).k ?_
    refine aB ?_ ?_ <;> intro hg25
    ·refine tn _ _ _ ?_
     exact (by rw [show find h m g ag need true=none from iD (by intro e;have e2:=bO.1 e.1;omega)];rfl)
    ·refine aB ?_ ?_ <;> intro hg28
     ·refine aB ?_ ?_ <;> intro hb
      ·refine tn _ _ _ ?_
       exact (by rw [show find h m g ag need true=none from iD (by intro e;have e2:=bO.1 e.1;omega)];rfl)
      ·refine tn _ _ _ ?_
       exact ⟨(),⟨bO.2 ⟨by simpa using gm,by omega,by omega⟩,by omega⟩,(by repeat' first|exact rfl|refine And.intro ?_ ?_|exact True.intro)⟩
     ·refine tn _ _ _ ?_
      exact ⟨(),⟨bO.2 ⟨by simpa using gm,by omega,by omega⟩,by omega⟩,(by repeat' first|exact rfl|refine And.intro ?_ ?_|exact True.intro)⟩
 have Gy:=bO.1 uW.1
 have hx0:=cC Gy.2.1
 have ny:=dU Gy.1 hx0
 have hmo:=dB ny
 obtain ⟨y,hy⟩:∃ y,(cE h m.toNat).aa[g.toNat]? = some y:=⟨_,List.getElem?_eq_getElem (by omega)⟩
 have oX:c9 h m.toNat g.toNat=y:=jF hx0 hy
 have CN:bL y=true:=(by simp only [eO,Bool.and_eq_true] at ny;exact List.all_eq_true.1 ny.1.1.2 y (List.mem_of_getElem? hy))
 have hml:=(List.getElem?_eq_some_iff.1 hx0).1
 have O2:=(List.getElem?_eq_some_iff.1 hy).1
 have sJ:Q (bf (cE h m.toNat)):=⟨j6.h _ (List.mem_of_getElem? hx0)⟩
 have qy:Q (aG y):=⟨j6.h y (List.mem_of_getElem? hy)⟩
 refine JW.cut 4 [1,2,3,4,5,6,7,14] [] [1000000] (fun (q:Int)=>[.set 17 (I q), .set 19 (I (bZ m g))]) (fun (q:Int)=>[(1000000,⟨false,[.own (.sl 1 ((hD h m q need).au.map aN)), .own (.sl 9 ((hD h m q need).ap.map bh)), .own (.sl 4 ((hD h m q need).Buffer.map aA)), .own (.sl 4 ((hD h m q need).aC.map aA))]⟩)]) (fun (q:Int)=>bn (c9 h m.toNat g.toNat).Live ag need=some q∧0 ≤ q∧q < 8) (by exact rfl) ?_
 refine ⟨fun J2 D7=> ?_,fun q hj2=> ?_⟩
 ·refine aZ ?_
  refine aI (by assumption) ?_
  refine aI (by assumption) ?_
  refine aZ ?_
  refine aI (by assumption) ?_
  refine aI (by assumption) ?_
  refine ak (s4 y.Live ag need).k ?_
  refine aB ?_ ?_ <;> intro gY
  ·refine D7 _ _ _ ?_
   exact (by rw [show find h m g ag need true=none from Eb uW oX (by assumption)];rfl)
  ·refine ah (pQ m g).k ?_
   have Px:=xB (by assumption:(bn y.Live ag need).isSome=true)
   have Vq:=n5 CN Px
   refine aB ?_ ?_ <;> intro tY
   ·refine aZ ?_
    refine aI (by assumption) ?_
    refine aI (by assumption) ?_
    refine aZ ?_
    refine aI (by assumption) ?_
    refine rA (fun z10 hz10 qz10 lz10=> ?_)
    refine D7 _ _ _ ?_
    exact ⟨((bn y.Live ag need).getD (-1)),⟨by rw [oX];exact Px,Vq⟩,(by repeat' first|exact rfl|refine And.intro ?_ ?_|exact True.intro|(refine eV ?_;exact congrArg (fun l:List D=>(⟨false,l.map C.own⟩:Rt)) (xz (by exact hx0) (by omega));done))⟩
   ·refine D7 _ _ _ ?_
    exact ⟨((bn y.Live ag need).getD (-1)),⟨by rw [oX];exact Px,Vq⟩,(by repeat' first|exact rfl|refine And.intro ?_ ?_|exact True.intro|(refine eV ?_;exact congrArg (fun l:List D=>(⟨false,l.map C.own⟩:Rt)) (xA (by omega));done))⟩
 have hsm:=(by assumption:Q (aj h)).h
 obtain ⟨x,z,k,y2,eT,XD⟩:=xo (need:=need) uW.1 hsm hj2.2
 have qd:Q (aj (hD h m q need)):=eT.hs.q
 refine JW.cut 2 [2,3,4,5,6,7,14,17,19] [] [20] (fun (_u:Unit)=>[.set 20 (.one (.ptr ⟨20,[],0⟩))]) (fun (_u:Unit)=>[(20,⟨true,[.own (.v (.int .i64 ((cK (hD h m q need).aC (bZ m g) ag).getD MG).Tag)), .own (.v (.int .i64 ((cK (hD h m q need).aC (bZ m g) ag).getD MG).aJ)), .own (.v (.int .i64 ((cK (hD h m q need).aC (bZ m g) ag).getD MG).Host)), .own (.v (.int .i64 ((cK (hD h m q need).aC (bZ m g) ag).getD MG).aT))]⟩)]) (fun (_u:Unit)=>nt (hD h m q need) true m g ag need=none) (by exact rfl) ?_
 refine ⟨fun J3 Py=> ?_,fun _u Vr=> ?_⟩
 ·refine ak (tc (hD h m q need).aC (bZ m g) ag).k ?_
  refine aB ?_ ?_ <;> intro hg1
  ·refine ah (kn _ _).k ?_
   refine aB ?_ ?_ <;> intro yW
   ·refine fW [0,1,2,3] [] [] (.fork (.alt 0 (.fork (.alt 1 (.fork (.alt 2 (.fork (.alt 3 (.quiet 4 0 (.quiet 5 0 .done)) .stop)) (.alt 3 (.fork (.alt 2 (.quiet 4 0 (.quiet 5 0 .done)) .stop)) .stop))) (.alt 3 (.fork (.alt 1 (.fork (.alt 2 (.quiet 4 0 (.quiet 5 0 .done)) .stop)) .stop)) .stop))) (.alt 1 (.fork (.alt 0 (.fork (.alt 2 (.fork (.alt 3 (.quiet 4 0 (.quiet 5 0 .done)) .stop)) (.alt 3 (.fork (.alt 2 (.quiet 4 0 (.quiet 5 0 .done)) .stop)) .stop))) (.alt 2 (.fork (.alt 0 (.fork (.alt 3 (.quiet 4 0 (.quiet 5 0 .done)) .stop)) .stop)) .stop))) .stop))) ?_
    repeat' first|exact True.intro|refine And.intro ?_ ?_
    all_goals (
     refine Py _ _ _ ?_
     exact (by rw [show find h m g ag need true=_ from Ec uW hj2.1 (by assumption) (by assumption)];rfl))
   ·refine Py _ _ _ ?_
    exact ⟨(),(wo (by right;assumption)),(by repeat' first|exact rfl|refine And.intro ?_ ?_|exact True.intro)⟩
  ·refine Py _ _ _ ?_
   exact ⟨(),(wo (by left;assumption)),(by repeat' first|exact rfl|refine And.intro ?_ ?_|exact True.intro)⟩
 obtain ⟨x2,k2,hme⟩:=B6 (ag:=ag) (need:=need) eT
 have hkk:=uv eT.hx eT.hk
 have qk:Q (de k):=⟨(eT.hs.sm eT.hx).2.2.2.2.2.2 k (List.mem_of_getElem? eT.hk)⟩
 have qk2:Q (de k2):=⟨(hme.hs.sm hme.hx).2.2.2.2.2.2 k2 (List.mem_of_getElem? hme.hk)⟩
 have qm:Q (aj (cL (hD h m q need) m.toNat q.toNat need)):=hme.hs.q
 have qx2:Q (bf x2):=⟨hme.hs.sm hme.hx⟩
 have YM:(hD h m q need).ap[m.toNat]? = some x:=eT.hx
 have hak:=eT.hk
 have He:(cL (hD h m q need) m.toNat q.toNat need).ap[m.toNat]? = some x2:=hme.hx
 have hbk:=hme.hk
 have hby:=hme.hy
 have qx1:Q (bf x):=⟨eT.hs.sm eT.hx⟩
 have l1:=(List.getElem?_eq_some_iff.1 YM).1
 have l2:=(List.getElem?_eq_some_iff.1 hak).1
 have l3:=(List.getElem?_eq_some_iff.1 He).1
 have l4:=(List.getElem?_eq_some_iff.1 hbk).1
 have l5:=(List.getElem?_eq_some_iff.1 hby).1
 have l6:m.toNat < ((cL (hD h m q need) m.toNat q.toNat need).ap.map bh).length:=by rw [List.length_map];exact l3
 have l7:g.toNat < (x2.Tables.map bS).length:=by rw [List.length_map];exact l4
 refine JW.cut 2 [4,6,7,14,15,16,19,20] [] [22,7,1000000] (fun (c:Bool)=>[.set 22 (.one (.ptr ⟨22,[],0⟩))]) (fun (c:Bool)=>[(22,⟨true,[.own (.v (.int .i64 (bif c then ((ask (eg k2 y2.Live x2.ai ag) ag).getD bu) else ((ask k ag).getD bu)).aJ)), .own (.v (.int .i64 (bif c then ((ask (eg k2 y2.Live x2.ai ag) ag).getD bu) else ((ask k ag).getD bu)).aT))]⟩),(7,⟨true,bif c then List.map C.own (r7 (cL (hD h m q need) m.toNat q.toNat need) m.toNat x2 g.toNat (eg k2 y2.Live x2.ai ag)) else [.ref ⟨1000000,[],0⟩, .ref ⟨1000000,[],1⟩, .ref ⟨1000000,[],2⟩, .ref ⟨1000000,[],3⟩]⟩),(1000000,⟨false,bif c then [.own .hole, .own .hole, .own .hole, .own .hole] else [.own (.sl 1 ((hD h m q need).au.map aN)), .own (.sl 9 ((hD h m q need).ap.map bh)), .own (.sl 4 ((hD h m q need).Buffer.map aA)), .own (.sl 4 ((hD h m q need).aC.map aA))]⟩)]) (fun (c:Bool)=>lets (ask (kept (hD h m q need) m.toNat g.toNat) ag) need= !c) (by exact rfl) ?_
 refine ⟨fun J4 Ll=> ?_,fun c XL=> ?_⟩
 ·refine aZ ?_
  refine aI (by assumption) ?_
  refine aI (by assumption) ?_
  refine aZ ?_
  refine aI (by assumption) ?_
  refine aI (by assumption) ?_
  refine ak (kO k ag).k ?_
  refine aB ?_ ?_ <;> intro mS
  ·refine jr [(1000000,0),(1000000,1),(1000000,2),(1000000,3)] (nu (mi:=m) (pi:=q) (row:=aq (hD h m q need)) (hD h m q need) m.toNat x q.toNat z need (by omega) (by omega) rfl (by omega) eT.hs eT.ha eT.hx eT.hz eT.sH) ?_
   refine cJ [35] [(0,0),(1,0),(2,0),(3,0),(4,0),(5,0),(6,0),(7,0),(8,0),(9,0),(10,0),(11,0),(12,0),(13,0),(14,0),(15,0),(16,0),(17,0),(18,0),(19,0),(20,0),(21,0),(22,0),(23,0),(24,0),(25,0),(26,0),(27,0),(28,0),(29,0),(30,0),(31,0),(32,0),(33,1),(34,0),(35,1)] ?_
   refine aZ ?_
   refine aI (by assumption) ?_
   refine aZ ?_
   refine aI (by assumption) ?_
   refine aI (by assumption) ?_
   refine aZ ?_
   refine aI (by assumption) ?_
   refine aI (by assumption) ?_
   refine aZ ?_
   refine aI (by assumption) ?_
   refine aI (by assumption) ?_
   refine aZ ?_
   refine aI (by assumption) ?_
   refine aI (by assumption) ?_
   refine aZ ?_
   refine aI (by assumption) ?_
   refine ak (mO k2 y2.Live x2.ai ag).k ?_
   refine aI (by assumption) ?_
   refine aZ ?_
   refine aI (by assumption) ?_
   refine aI (by assumption) ?_
   refine aZ ?_
   refine cA ?_
   refine cA ?_
   refine aZ ?_
   refine cA ?_
   refine cA ?_
   refine ak (kO (eg k2 y2.Live x2.ai ag) ag).k ?_ (by repeat first|exact rfl|refine eB.mk (by exact WD.w) ?_|refine cA ?_)
   refine Ll _ _ _ ?_
   exact ⟨true,(iE (by rw [hkk];(left;assumption))),(by repeat' first|exact rfl|refine And.intro ?_ ?_|exact True.intro)⟩
  ·refine aB ?_ ?_ <;> intro Hw
   ·refine jr [(1000000,0),(1000000,1),(1000000,2),(1000000,3)] (nu (mi:=m) (pi:=q) (row:=aq (hD h m q need)) (hD h m q need) m.toNat x q.toNat z need (by omega) (by omega) rfl (by omega) eT.hs eT.ha eT.hx eT.hz eT.sH) ?_
    refine cJ [35] [(0,0),(1,0),(2,0),(3,0),(4,0),(5,0),(6,0),(7,0),(8,0),(9,0),(10,0),(11,0),(12,0),(13,0),(14,0),(15,0),(16,0),(17,0),(18,0),(19,0),(20,0),(21,0),(22,0),(23,0),(24,0),(25,0),(26,0),(27,0),(28,0),(29,0),(30,0),(31,0),(32,0),(33,1),(34,0),(35,1)] ?_
    refine aZ ?_
    refine aI (by assumption) ?_
    refine aZ ?_
    refine aI (by assumption) ?_
    refine aI (by assumption) ?_
    refine aZ ?_
    refine aI (by assumption) ?_
    refine aI (by assumption) ?_
    refine aZ ?_
    refine aI (by assumption) ?_
    refine aI (by assumption) ?_
    refine aZ ?_
    refine aI (by assumption) ?_
    refine aI (by assumption) ?_
    refine aZ ?_
    refine aI (by assumption) ?_
    refine ak (mO k2 y2.Live x2.ai ag).k ?_
    refine aI (by assumption) ?_
    refine aZ ?_
    refine aI (by assumption) ?_
    refine aI (by assumption) ?_
    refine aZ ?_
    refine cA ?_
    refine cA ?_
    refine aZ ?_
    refine cA ?_
    refine cA ?_
    refine ak (kO (eg k2 y2.Live x2.ai ag) ag).k ?_ (by repeat first|exact rfl|refine eB.mk (by exact WD.w) ?_|refine cA ?_)
    refine Ll _ _ _ ?_
    exact ⟨true,(iE (by rw [hkk];(right;left;assumption))),(by repeat' first|exact rfl|refine And.intro ?_ ?_|exact True.intro)⟩
   ·refine ah (kn _ _).k ?_
    refine aB ?_ ?_ <;> intro CE
    ·refine jr [(1000000,0),(1000000,1),(1000000,2),(1000000,3)] (nu (mi:=m) (pi:=q) (row:=aq (hD h m q need)) (hD h m q need) m.toNat x q.toNat z need (by omega) (by omega) rfl (by omega) eT.hs eT.ha eT.hx eT.hz eT.sH) ?_
     refine cJ [35] [(0,0),(1,0),(2,0),(3,0),(4,0),(5,0),(6,0),(7,0),(8,0),(9,0),(10,0),(11,0),(12,0),(13,0),(14,0),(15,0),(16,0),(17,0),(18,0),(19,0),(20,0),(21,0),(22,0),(23,0),(24,0),(25,0),(26,0),(27,0),(28,0),(29,0),(30,0),(31,0),(32,0),(33,1),(34,0),(35,1)] ?_
     refine aZ ?_
     refine aI (by assumption) ?_
     refine aZ ?_
     refine aI (by assumption) ?_
     refine aI (by assumption) ?_
     refine aZ ?_
     refine aI (by assumption) ?_
     refine aI (by assumption) ?_
     refine aZ ?_
     refine aI (by assumption) ?_
     refine aI (by assumption) ?_
     refine aZ ?_
     refine aI (by assumption) ?_
     refine aI (by assumption) ?_
     refine aZ ?_
     refine aI (by assumption) ?_
     refine ak (mO k2 y2.Live x2.ai ag).k ?_
     refine aI (by assumption) ?_
     refine aZ ?_
     refine aI (by assumption) ?_
     refine aI (by assumption) ?_
     refine aZ ?_
     refine cA ?_
     refine cA ?_
     refine aZ ?_
     refine cA ?_
     refine cA ?_
     refine ak (kO (eg k2 y2.Live x2.ai ag) ag).k ?_ (by repeat first|exact rfl|refine eB.mk (by exact WD.w) ?_|refine cA ?_)
     refine Ll _ _ _ ?_
     exact ⟨true,(iE (by rw [hkk];(right;right;assumption))),(by repeat' first|exact rfl|refine And.intro ?_ ?_|exact True.intro)⟩
    ·refine Ll _ _ _ ?_
     exact ⟨false,(by rw [hkk];exact tu (by assumption) (by assumption) (by assumption)),(by repeat' first|exact rfl|refine And.intro ?_ ?_|exact True.intro)⟩
 cases c
 ·refine JW.w ?_
  refine bk (mq (hD h m q need).aC ⟨bZ m g,ag,((ask k ag).getD bu).aJ,((ask k ag).getD bu).aT⟩).k ?_
  refine fW [0,1,2,3] [] [] (.fork (.alt 0 (.fork (.alt 1 (.fork (.alt 2 (.fork (.alt 3 (.quiet 4 0 (.quiet 5 0 .done)) .stop)) (.alt 3 (.fork (.alt 2 (.quiet 4 0 (.quiet 5 0 .done)) .stop)) .stop))) (.alt 3 (.fork (.alt 1 (.fork (.alt 2 (.quiet 4 0 (.quiet 5 0 .done)) .stop)) .stop)) .stop))) (.alt 1 (.fork (.alt 0 (.fork (.alt 2 (.fork (.alt 3 (.quiet 4 0 (.quiet 5 0 .done)) .stop)) (.alt 3 (.fork (.alt 2 (.quiet 4 0 (.quiet 5 0 .done)) .stop)) .stop))) (.alt 2 (.fork (.alt 0 (.fork (.alt 3 (.quiet 4 0 (.quiet 5 0 .done)) .stop)) .stop)) .stop))) .stop))) ?_
  repeat' first|exact True.intro|refine And.intro ?_ ?_
  all_goals exact (by rw [show find h m g ag need true=_ from NC uW hj2.1 Vr hkk XL];rfl)
 ·refine JW.w ?_
  refine bk (mq (cL (hD h m q need) m.toNat q.toNat need).aC ⟨bZ m g,ag,((ask (eg k2 y2.Live x2.ai ag) ag).getD bu).aJ,((ask (eg k2 y2.Live x2.ai ag) ag).getD bu).aT⟩).k ?_
  refine fW [0,1,2,3] [] [] (.fork (.alt 0 (.fork (.alt 1 (.fork (.alt 2 (.fork (.alt 3 (.quiet 4 0 (.quiet 5 0 .done)) .stop)) (.alt 3 (.fork (.alt 2 (.quiet 4 0 (.quiet 5 0 .done)) .stop)) .stop))) (.alt 3 (.fork (.alt 1 (.fork (.alt 2 (.quiet 4 0 (.quiet 5 0 .done)) .stop)) .stop)) .stop))) (.alt 1 (.fork (.alt 0 (.fork (.alt 2 (.fork (.alt 3 (.quiet 4 0 (.quiet 5 0 .done)) .stop)) (.alt 3 (.fork (.alt 2 (.quiet 4 0 (.quiet 5 0 .done)) .stop)) .stop))) (.alt 2 (.fork (.alt 0 (.fork (.alt 3 (.quiet 4 0 (.quiet 5 0 .done)) .stop)) .stop)) .stop))) .stop))) ?_
  repeat' first|exact True.intro|refine And.intro ?_ ?_
  all_goals exact (by rw [XN uW hj2.1 Vr hme XL,show find h m g ag need true=_ from A9 uW hj2.1 Vr hme XL];rfl)
end
section
variable {m t:Int} {h:an}
set_option maxRecDepth 100000
set_option maxHeartbeats 8000000
theorem tw (hn:¬ (dL h=true∧(0 ≤ m∧m < h.ap.length)∧0 ≤ t∧t ≤ 3)):iW h m t=none:=by
 unfold iW
 rw [if_neg]
 intro e
 simp only [Bool.and_eq_true,decide_eq_true_eq] at e
 exact hn ⟨(s7.1 e.1).1,(s7.1 e.1).2,e.2⟩
theorem Jq (hn:dL h=true∧(0 ≤ m∧m < h.ap.length)∧0 ≤ t∧t ≤ 3):iW h m t=some (fD h m.toNat { cE h m.toNat with bq:=t }):=by
 unfold iW
 rw [if_pos]
 simp only [Bool.and_eq_true,decide_eq_true_eq]
 exact ⟨s7.2 ⟨hn.1,hn.2.1⟩,hn.2.2⟩
abbrev Q7 (h:an) (m:Nat) (x:aO) (t:Int):List D:=[.sl 1 (h.au.map aN), .sl 9 ((h.ap.map bh).set m (.st [.sl 2 (x.ai.map aQ), .sl 1 (x.Out.map aN), .sl 1 (x.a_.map bz), .sl 15 (x.aa.map aY), .sl 1 (x.bX.map bH), .v (.int .i64 x.ax), .v (.int .i64 t), .sl 2 (x.Tables.map bS), .v (.int .i64 x.Own)])), .sl 4 (h.Buffer.map aA), .sl 4 (h.aC.map aA)]
theorem GA (h:an) (m:Nat) (x:aO) (t:Int):Q7 h m x t=aq (fD h m { x with bq:=t }):=by
 have e:bh { x with bq:=t }= .st [.sl 2 (x.ai.map aQ), .sl 1 (x.Out.map aN), .sl 1 (x.a_.map bz), .sl 15 (x.aa.map aY), .sl 1 (x.bX.map bH), .v (.int .i64 x.ax), .v (.int .i64 t), .sl 2 (x.Tables.map bS), .v (.int .i64 x.Own)]:=rfl
 unfold Q7 fD
 show _=[_,D.sl 9 ((h.ap.set m { x with bq:=t }).map bh),_,_]
 rw [List.map_set,e]
theorem yq (h:an) (m:Int) (g:Int) (ag:Int) (need:Int) [Q (aj h)]:aF Tryz.prog 259 [A (aq h),I m,I g,I ag,I need] (RG [.a (aq (((find h m g ag need false).map fun q=>q.1).getD h)), .c (.v (.int .i64 (((find h m g ag need false).map fun q=>q.2).getD (-1)))), .c (.v (.bool (find h m g ag need false).isSome))]):=by
 refine aF.w 22 Tryz.func259 fun w g0 _=> ?_
 refine ak (HZ h m g ag need).k ?_
 exact rfl
theorem uY (h:an) (m:Int) (g:Int) (ag:Int) (need:Int) [Q (aj h)]:aF Tryz.prog 293 [A (aq h),I m,I g,I ag,I need] (RG [.a (aq (((find h m g ag need true).map fun q=>q.1).getD h)), .c (.v (.int .i64 (((find h m g ag need true).map fun q=>q.2).getD (-1)))), .c (.v (.bool (find h m g ag need true).isSome))]):=by
 refine aF.w 22 Tryz.func293 fun w g0 _=> ?_
 refine ak (Gz h m g ag need).k ?_
 exact rfl
theorem Dr (h:an) (m:Int) (t:Int) [Q (aj h)]:aF Tryz.prog 334 [A (aq h),I m,I t] (RG [.a (aq ((iW h m t).getD h)), .c (.v (.bool (iW h m t).isSome))]):=by
 refine aF.w 35 Tryz.func334 fun w g0 hM=> ?_
 have LK:=(inferInstance:dc h.ap 1048576).h
 have eK:=hM.1.2.1.map
 refine ak (ct h).k ?_
 refine ah (ko h).k ?_
 refine aB ?_ ?_ <;> intro gm
 exact (by rw [tw (by intro e;have e2:=e.1;simp_all;done)];rfl)
 refine len ?_
 refine cD ?_
 refine ah (aE _ _ _).k ?_
 refine aB ?_ ?_ <;> intro hg12
 exact (by rw [tw (by first|(intro e;have e2:=e.1;simp_all;done)|(intro e;omega))];rfl)
 refine ah (aE _ _ _).k ?_
 refine aB ?_ ?_ <;> intro hb
 exact (by rw [tw (by intro e;have e2:=e.1;simp_all;done)];rfl)
 have hx0:=cC (h:=h) (m:=m) (by omega)
 have hml:=(List.getElem?_eq_some_iff.1 hx0).1
 have mF:m.toNat < (h.ap.map bh).length:=by rw [List.length_map];exact hml
 have sJ:Q (bf (cE h m.toNat)):=⟨j6.h _ (List.mem_of_getElem? hx0)⟩
 first|refine fN (by assumption) ?_|refine cS ?_|refine aZ ?_
 first|refine cA ?_|refine aI (by assumption) ?_
 exact (by rw [Jq ⟨by assumption,by omega,by omega⟩,show aq ((some (fD h m.toNat { cE h m.toNat with bq:=t })).getD h)=_ from (GA h m.toNat (cE h m.toNat) t).symm];rfl)
theorem Ds (h:an) (m:Int) (t:Int) [Q (aj h)]:aF Tryz.prog 175 [A (aq h),I m,I t] (RG [.a (aq ((iW h m t).getD h)), .c (.v (.bool (iW h m t).isSome))]):=by
 refine aF.w 35 Tryz.func175 fun w g0 hM=> ?_
 have LK:=(inferInstance:dc h.ap 1048576).h
 have eK:=hM.1.2.1.map
 refine ak (aP h).k ?_
 refine ah (fo h).k ?_
 refine aB ?_ ?_ <;> intro gm
 exact (by rw [tw (by intro e;have e2:=e.1;simp_all;done)];rfl)
 refine len ?_
 refine ah (bA _ _).k ?_
 refine aB ?_ ?_ <;> intro hg11
 exact (by rw [tw (by intro e;have e2:=e.1;simp_all;done)];rfl)
 refine ah (aS _ _ _).k ?_
 refine aB ?_ ?_ <;> intro hb
 exact (by rw [tw (by intro e;have e2:=e.1;simp_all;done)];rfl)
 have hx0:=cC (h:=h) (m:=m) (by omega)
 have hml:=(List.getElem?_eq_some_iff.1 hx0).1
 have mF:m.toNat < (h.ap.map bh).length:=by rw [List.length_map];exact hml
 have sJ:Q (bf (cE h m.toNat)):=⟨j6.h _ (List.mem_of_getElem? hx0)⟩
 first|refine fN (by assumption) ?_|refine cS ?_|refine aZ ?_
 first|refine cA ?_|refine aI (by assumption) ?_
 exact (by rw [Jq ⟨by assumption,by omega,by omega⟩,show aq ((some (fD h m.toNat { cE h m.toNat with bq:=t })).getD h)=_ from (GA h m.toNat (cE h m.toNat) t).symm];rfl)
end
end Go.Proofs.YtdliggkohdnipaaGreat.T
