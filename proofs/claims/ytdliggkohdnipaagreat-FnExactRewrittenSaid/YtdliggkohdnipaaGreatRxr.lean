import Derived.Test.YtdliggkohdnipaaGreatPlr
import Derived.Test.YtdliggkohdnipaaGreatQtr
import Derived.Test.YtdliggkohdnipaaGreatPar
import Derived.Test.YtdliggkohdnipaaGreatPsr
set_option linter.unusedVariables false
set_option linter.unusedSimpArgs false
namespace Go.Proofs.YtdliggkohdnipaaGreat.T
open Go
set_option maxRecDepth 100000
set_option maxHeartbeats 8000000
theorem GX {row:List D} {mi pi:Int} (h:an) (m:Nat) (x:aO) (p:Nat) (z:aL) (Bj:mi=m) (Fy:pi=p) (hr:row=aq h) (hx:h.ap[m]? = some x) (ov:x.Tables.length=x.aa.length) (hz:x.ai[p]? = some z) (N7:x.Out.length=8) (HA:x.ai.length=8) (q:aj h) (ci cj:Nat):
  j3 Tryz.prog 431 row [(1,ci),(3,cj)] [0,3,4,14] [.one (.agg [.ref ⟨1000000,[],0⟩, .ref ⟨1000000,[],1⟩, .ref ⟨1000000,[],2⟩, .ref ⟨1000000,[],3⟩]),I mi,I pi] (RG [.a (aq (cr h m p))]):=by
 subst hr Bj Fy
 have:Q (aj h):=⟨q⟩
 exact H9 h m x p z hx ov hz N7 HA ci cj
theorem Ls (h:an) (m:Nat) (x:aO) (p:Nat) (z:aL) (hs:nD h) (ha:jE h) (hx:h.ap[m]? = some x) (hz:x.ai[p]? = some z) (h1:z.aJ= -1) (ci cj:Nat):j3 Tryz.prog 432 (aq h) [(1,ci),(3,cj)] [0,3,4,14] [.one (.agg [.ref ⟨1000000,[],0⟩, .ref ⟨1000000,[],1⟩, .ref ⟨1000000,[],2⟩, .ref ⟨1000000,[],3⟩]),I m,I p] (RG [.a (aq (cw h m p))]):=by
 refine j3.w [999997] 56 Tryz.func432 fun w g0 _=> ?_
 have qh:Q (aj h):=hs.q
 obtain ⟨x1,t,l,hr,CN⟩:=xl hs ha hx hz h1
 have hp8:=(List.getElem?_eq_some_iff.1 hz).1
 have jg:=hs.cE hx
 have U1:=jg.1
 have hml0:=(List.getElem?_eq_some_iff.1 hx).1
 have G6:cw h m p=yR (roomFor h) m p:=rfl
 refine bk (kq h).k ?_
 refine len ?_
 refine aB ?_ ?_ <;> intro hb
 ·have hf:eE h=[]:=List.length_eq_zero_iff.1 (by omega)
  obtain ⟨a,b,ho⟩:=xk hs.2.1 hf
  obtain ⟨u,s,hu,hw,OP,Wf⟩:=nW ho
  clear OP Wf
  rw [we hf ho] at hr G6
  have Qz:=hs.cE hu
  refine ak (mE h 0).k ?_
  refine rp 1000000 [(1000000,0),(1000000,1),(1000000,2),(1000000,3)] (GX (mi:=oM (bN h 0)) (pi:=oP (bN h 0)) (row:=aq h) h a u b s (by rw [ho];rfl) (by rw [ho];rfl) rfl hu Qz.2.2.2 hw Qz.2.1 Qz.1 hs.1 ci cj) ?_
  skip
  have qk:Q (aj (cr h a b)):=hr.hs.q
  have hmk:=hr.hs.cE hr.hx
  have F5:=hmk.1
  have U2:=hmk.2.1
  have kQ:=hr.hx
  have sE:=hr.hz
  have ht:=hr.ht
  have JF:(eE (cr h a b))[0]? = some t:=by rw [hr.hf];rfl
  have hfl:0 < (eE (cr h a b)).length:=by rw [hr.hf];exact Nat.succ_pos _
  have qx:Q (bf x1):=⟨hr.hs.sm hr.hx⟩
  obtain ⟨y,hy⟩:∃ y,x1.Out[p]? = some y:=⟨_,List.getElem?_eq_getElem (by omega)⟩
  have qy:Q (c4 y):=⟨j6.h y (List.mem_of_getElem? hy)⟩
  have hml:=(List.getElem?_eq_some_iff.1 kQ).1
  have oF:=(List.getElem?_eq_some_iff.1 sE).1
  have mF:m < ((cr h a b).ap.map bh).length:=by rw [List.length_map];exact hml
  have y7:p < (x1.ai.map aQ).length:=by rw [List.length_map];exact oF
  have Xv:=(List.getElem?_eq_some_iff.1 hy).1
  have hkm:=hr.hs.2.1
  rw [rT hr hy] at G6
  refine bk (kq (cr h a b)).k ?_
  refine cS (m:=0) ?_ (by rw [List.length_map];exact hfl)
  refine aI (by assumption) ?_
  refine cJ [14] [(0,0),(1,0),(2,0),(3,0),(4,0),(5,0),(6,0),(7,0),(8,0),(9,0),(10,0),(11,0),(12,1),(13,0),(14,1)] ?_
  refine cS ?_
  refine aI (by assumption) ?_
  refine aI (by assumption) ?_
  refine cS ?_
  refine aI (by assumption) ?_
  refine aI (by assumption) ?_
  refine bk (mh (cr h a b).au t y).k ?_
  refine cS ?_
  refine aI (by assumption) ?_
  refine aI (by assumption) ?_
  refine cS ?_
  refine aI (by assumption) ?_
  refine aI (by assumption) ?_
  refine rp 1000000 [(3,0),(22,1),(22,2),(22,3)] (kj (row:=Jg (cr h a b) m x1 p y t) (um (cr h a b) m x1 p y t) m (uT x1 p) p z ⟨t,3⟩ (AN (cr h a b) m x1 p y t) (dz kQ) hmk.2.2.2 sE (q8 hr.hs kQ qy.h).1 ci cj) ?_
  exact ⟨(by rw [G6];rfl),_,_,_,_,_,_,_,rfl,rfl,rfl,rfl⟩
 ·rw [AJ (fun e=>by rw [e] at hb;simp at hb)] at hr G6
  have qk:Q (aj h):=hr.hs.q
  have hmk:=hr.hs.cE hr.hx
  have F5:=hmk.1
  have U2:=hmk.2.1
  have kQ:=hr.hx
  have sE:=hr.hz
  have ht:=hr.ht
  have JF:(eE h)[0]? = some t:=by rw [hr.hf];rfl
  have hfl:0 < (eE h).length:=by rw [hr.hf];exact Nat.succ_pos _
  have qx:Q (bf x1):=⟨hr.hs.sm hr.hx⟩
  obtain ⟨y,hy⟩:∃ y,x1.Out[p]? = some y:=⟨_,List.getElem?_eq_getElem (by omega)⟩
  have qy:Q (c4 y):=⟨j6.h y (List.mem_of_getElem? hy)⟩
  have hml:=(List.getElem?_eq_some_iff.1 kQ).1
  have oF:=(List.getElem?_eq_some_iff.1 sE).1
  have mF:m < (h.ap.map bh).length:=by rw [List.length_map];exact hml
  have y7:p < (x1.ai.map aQ).length:=by rw [List.length_map];exact oF
  have Xv:=(List.getElem?_eq_some_iff.1 hy).1
  have hkm:=hr.hs.2.1
  rw [rT hr hy] at G6
  refine bk (kq h).k ?_
  refine cS (m:=0) ?_ (by rw [List.length_map];exact hfl)
  refine aI (by assumption) ?_
  refine cJ [14] [(0,0),(1,0),(2,0),(3,0),(4,0),(5,0),(6,0),(7,0),(8,0),(9,0),(10,0),(11,0),(12,1),(13,0),(14,1)] ?_
  refine cS ?_
  refine aI (by assumption) ?_
  refine aI (by assumption) ?_
  refine cS ?_
  refine aI (by assumption) ?_
  refine aI (by assumption) ?_
  refine bk (mh h.au t y).k ?_
  refine cS ?_
  refine aI (by assumption) ?_
  refine aI (by assumption) ?_
  refine cS ?_
  refine aI (by assumption) ?_
  refine aI (by assumption) ?_
  refine rp 1000000 [(3,0),(1000000,1),(1000000,2),(1000000,3)] (kj (row:=Jg h m x1 p y t) (um h m x1 p y t) m (uT x1 p) p z ⟨t,3⟩ (AN h m x1 p y t) (dz kQ) hmk.2.2.2 sE (q8 hr.hs kQ qy.h).1 ci cj) ?_
  exact ⟨(by rw [G6];rfl),_,_,_,_,_,_,_,rfl,rfl,rfl,rfl⟩
theorem H_ {row:List D} {mi pi:Int} (h:an) (m:Nat) (x:aO) (p:Nat) (z:aL) (Bj:mi=m) (Fy:pi=p) (hr:row=aq h) (hs:nD h) (ha:jE h) (hx:h.ap[m]? = some x) (hz:x.ai[p]? = some z) (h1:z.aJ= -1) (ci cj:Nat):
  j3 Tryz.prog 432 row [(1,ci),(3,cj)] [0,3,4,14] [.one (.agg [.ref ⟨1000000,[],0⟩, .ref ⟨1000000,[],1⟩, .ref ⟨1000000,[],2⟩, .ref ⟨1000000,[],3⟩]),I mi,I pi] (RG [.a (aq (cw h m p))]):=by
 subst hr Bj Fy
 exact Ls h m x p z hs ha hx hz h1 ci cj
theorem GY (h:an) (m:Nat) (x:aO) (p:Nat) (z:aL) (need:Int) (hn:0 ≤ need∧need ≤ 3) (hs:nD h) (ha:jE h) (hx:h.ap[m]? = some x) (hz:x.ai[p]? = some z) (sH:Wd z) (ci cj:Nat):j3 Tryz.prog 353 (aq h) [(1,ci),(3,cj)] [0,3,4,14] [.one (.agg [.ref ⟨1000000,[],0⟩, .ref ⟨1000000,[],1⟩, .ref ⟨1000000,[],2⟩, .ref ⟨1000000,[],3⟩]),I m,I p,I need] (RG [.a (aq (cL h m p need))]):=by
 refine j3.w [999997] 58 Tryz.func353 fun w g0 _=> ?_
 have qh:Q (aj h):=hs.q
 have sJ:Q (bf x):=⟨hs.sm hx⟩
 have jg:=hs.cE hx
 have U1:=jg.1
 have hml:=(List.getElem?_eq_some_iff.1 hx).1
 have oF:=(List.getElem?_eq_some_iff.1 hz).1
 have mF:m < (h.ap.map bh).length:=by rw [List.length_map];exact hml
 have y7:p < (x.ai.map aQ).length:=by rw [List.length_map];exact oF
 have X9:z.aJ= -1 ↔ z.aJ= -1∧z.aT=0:=⟨fun e=>⟨e,sH.2.2 e⟩,fun e=>e.1⟩
 have RU:bu.aJ= -1:=rfl
 have RW:bu.aT=0:=rfl
 have htn:=uq hn
 have U4:=sH.1
 have U5:=sH.2.1
 refine pM ?_
 refine cS ?_
 refine aI (by assumption) ?_
 refine aI (by assumption) ?_
 refine cS ?_
 refine aI (by assumption) ?_
 refine aI (by assumption) ?_
 refine iQ (cW).k ?_
 refine RQ ?_
 refine aB ?_ ?_ <;> intro hb
 refine rp 1000000 [(1000000,0),(1000000,1),(1000000,2),(1000000,3)] (H_ (mi:=m) (pi:=p) h m x p z rfl rfl rfl hs ha hx hz (by omega) ci cj) ?_
 obtain ⟨x1,z1,kQ,sE,LF,hks⟩:∃ x1 z1,(cw h m p).ap[m]? = some x1∧x1.ai[p]? = some z1∧(0 ≤ z1.aT∧z1.aT ≤ 3)∧nD (cw h m p):=(by obtain ⟨y,t,h2,h3,h4⟩:=wg hs ha hx hz (by omega);exact ⟨y,_,h2,h3,⟨by show (0:Int) ≤ 3;decide,by show (3:Int) ≤ 3;decide⟩,tg hs ha hx hz (by omega)⟩)
 have hme:cL h m p need=if ry need 2=0 then cw h m p else Ai (cw h m p) m p:=(by unfold cL;rw [gL hx hz];simp only [if_pos (show z.aJ= -1 by omega)])
 have qk:Q (aj (cw h m p)):=hks.q
 have hmk:=hks.cE kQ
 have F5:=hmk.1
 have U6:=hmk.2.2.1
 have qx:Q (bf x1):=⟨hks.sm kQ⟩
 have LH:=(List.getElem?_eq_some_iff.1 kQ).1
 have Pg:m < ((cw h m p).ap.map bh).length:=by rw [List.length_map];exact LH
 have hkp:=(List.getElem?_eq_some_iff.1 sE).1
 have U7:p < (x1.ai.map aQ).length:=by rw [List.length_map];exact hkp
 obtain ⟨bd,hbd⟩:∃ b,x1.a_[p]? = some b:=⟨_,List.getElem?_eq_getElem (by omega)⟩
 have NU:=(List.getElem?_eq_some_iff.1 hbd).1
 have U8:p < (x1.a_.map bz).length:=by rw [List.length_map];exact NU
 have htz:=uq LF
 refine aB ?_ ?_ <;> intro gY
 exact ⟨(by rw [hme,if_pos (by simp_all)];rfl),_,_,_,_,_,_,_,rfl,rfl,rfl,rfl⟩
 refine cS ?_
 refine aI (by assumption) ?_
 refine aI (by assumption) ?_
 refine cS ?_
 refine aI (by assumption) ?_
 refine aI (by assumption) ?_
 refine cS ?_
 refine cA ?_
 refine cA ?_
 refine cS ?_
 refine cA ?_
 refine aI (by assumption) ?_
 refine aB ?_ ?_ <;> intro tY
 refine rp 1000000 [(24,0),(24,1),(24,2),(24,3)] (kj (row:=ur (cw h m p) m x1 p) (rU (cw h m p) m x1 p) m (uU x1 p) p z1 ⟨z1.aJ,3⟩ (iB (cw h m p) m x1 p) (dz kQ) hmk.2.2.2 sE (nZ hks kQ).1 ci cj) ?_
 exact ⟨(by rw [hme,if_neg (by simp_all),q9 kQ sE (by simp_all)];rfl),_,_,_,_,_,_,_,rfl,rfl,rfl,rfl⟩
 exact ⟨(by rw [hme,if_neg (by simp_all),rV kQ sE (by simp_all), ← iB];rfl),_,_,_,_,_,_,_,rfl,rfl,rfl,rfl⟩
 obtain ⟨x1,z1,kQ,sE,LF,hks⟩:∃ x1 z1,h.ap[m]? = some x1∧x1.ai[p]? = some z1∧(0 ≤ z1.aT∧z1.aT ≤ 3)∧nD h:=⟨x,z,hx,hz,⟨U4,U5⟩,hs⟩
 have hme:cL h m p need=if ry need 2=0 then h else Ai h m p:=(by unfold cL;rw [gL hx hz];simp only [if_neg (show ¬ z.aJ= -1 by omega)])
 have qk:Q (aj h):=hks.q
 have hmk:=hks.cE kQ
 have F5:=hmk.1
 have U6:=hmk.2.2.1
 have qx:Q (bf x1):=⟨hks.sm kQ⟩
 have LH:=(List.getElem?_eq_some_iff.1 kQ).1
 have Pg:m < (h.ap.map bh).length:=by rw [List.length_map];exact LH
 have hkp:=(List.getElem?_eq_some_iff.1 sE).1
 have U7:p < (x1.ai.map aQ).length:=by rw [List.length_map];exact hkp
 obtain ⟨bd,hbd⟩:∃ b,x1.a_[p]? = some b:=⟨_,List.getElem?_eq_getElem (by omega)⟩
 have NU:=(List.getElem?_eq_some_iff.1 hbd).1
 have U8:p < (x1.a_.map bz).length:=by rw [List.length_map];exact NU
 have htz:=uq LF
 refine aB ?_ ?_ <;> intro yW
 exact ⟨(by rw [hme,if_pos (by simp_all)];rfl),_,_,_,_,_,_,_,rfl,rfl,rfl,rfl⟩
 refine cS ?_
 refine aI (by assumption) ?_
 refine aI (by assumption) ?_
 refine cS ?_
 refine aI (by assumption) ?_
 refine aI (by assumption) ?_
 refine cS ?_
 refine cA ?_
 refine cA ?_
 refine cS ?_
 refine cA ?_
 refine aI (by assumption) ?_
 refine aB ?_ ?_ <;> intro CE
 refine rp 1000000 [(1000000,0),(1000000,1),(1000000,2),(1000000,3)] (kj (row:=ur h m x1 p) (rU h m x1 p) m (uU x1 p) p z1 ⟨z1.aJ,3⟩ (iB h m x1 p) (dz kQ) hmk.2.2.2 sE (nZ hks kQ).1 ci cj) ?_
 exact ⟨(by rw [hme,if_neg (by simp_all),q9 kQ sE (by simp_all)];rfl),_,_,_,_,_,_,_,rfl,rfl,rfl,rfl⟩
 exact ⟨(by rw [hme,if_neg (by simp_all),rV kQ sE (by simp_all), ← iB];rfl),_,_,_,_,_,_,_,rfl,rfl,rfl,rfl⟩
theorem ph {row:List D} {mi pi:Int} (h:an) (m:Nat) (x:aO) (p:Nat) (z:aL) (need:Int) (Bj:mi=m) (Fy:pi=p) (hr:row=aq h) (hn:0 ≤ need∧need ≤ 3) (hs:nD h) (ha:jE h) (hx:h.ap[m]? = some x) (hz:x.ai[p]? = some z) (sH:Wd z) (ci cj:Nat):
  j3 Tryz.prog 353 row [(1,ci),(3,cj)] [0,3,4,14] [.one (.agg [.ref ⟨1000000,[],0⟩, .ref ⟨1000000,[],1⟩, .ref ⟨1000000,[],2⟩, .ref ⟨1000000,[],3⟩]),I mi,I pi,I need] (RG [.a (aq (cL h m p need))]):=by
 subst hr Bj Fy
 exact GY h m x p z need hn hs ha hx hz sH ci cj
theorem GZ (h:an) (m:Int) (g:Int) (ag:Int) (need:Int) [Q (aj h)] (ci cj:Nat):j3 Tryz.prog 357 (aq h) [(1,ci),(3,cj)] [0,3,4,14] [.one (.agg [.ref ⟨1000000,[],0⟩, .ref ⟨1000000,[],1⟩, .ref ⟨1000000,[],2⟩, .ref ⟨1000000,[],3⟩]), .one (.c (.ref ⟨1000000,[],2⟩)),I m,I g,I ag,I need,B false] (RG [.a (aq (((find h m g ag need false).map fun q=>q.1).getD h)), .c (.v (.int .i64 (((find h m g ag need false).map fun q=>q.2).getD (-1)))), .c (.v (.bool (find h m g ag need false).isSome))]):=by
 refine j3.wJ [999997,139] 210 Tryz.func357 fun w g0 _=> ?_
 have LK:=(inferInstance:dc h.ap 1048576).h
 refine JW.cut 2 [1,2,3,4,5,6] [] [14,7] (fun (_u:Unit)=>[.set 7 (.one (.ptr ⟨7,[],0⟩)), .set 14 (.one (.ptr ⟨14,[],0⟩))]) (fun (_u:Unit)=>[(14,⟨true,[.own (.sl 1 []), .own (.sl 9 []), .own (.sl 4 []), .own (.sl 4 [])]⟩),(7,⟨true,[.ref ⟨1000000,[],0⟩, .ref ⟨1000000,[],1⟩, .ref ⟨1000000,[],2⟩, .ref ⟨1000000,[],3⟩]⟩)]) (fun (_u:Unit)=>cG h m g=true∧(need=1 ∨ need=2)) (by exact rfl) ?_
 refine ⟨fun J1 tn=> ?_,fun _u uW=> ?_⟩
 ·refine ah (ko h).k ?_
  refine aB ?_ ?_ <;> intro gm
  ·refine tn _ _ _ ?_
   exact ⟨(by rw [show find h m g ag need false=none from iD (by exact Gx (by simpa using gm))];rfl),_,_,_,_,_,_,_,rfl,rfl,rfl,rfl⟩
  ·refine len ?_
   refine cD ?_
   refine ah (aE _ _ _).k ?_
   refine aB ?_ ?_ <;> intro hg12
   ·refine tn _ _ _ ?_
    exact ⟨(by rw [show find h m g ag need false=none from iD (by intro e;have e2:=bO.1 e.1;omega)];rfl),_,_,_,_,_,_,_,rfl,rfl,rfl,rfl⟩
   ·have hx0:h.ap[m.toNat]? = some (cE h m.toNat):=cC (by omega)
    have qm0:Q (bf (cE h m.toNat)):=⟨j6.h _ (List.mem_of_getElem? hx0)⟩
    have hlg:=(inferInstance:dc (cE h m.toNat).aa 1048576).h
    refine aZ ?_
    refine aI (by assumption) ?_
    refine aI (by assumption) ?_
    refine len ?_
    refine cD ?_
    refine ah (aE _ _ _).k ?_
    refine aB ?_ ?_ <;> intro hg25
    ·refine tn _ _ _ ?_
     exact ⟨(by rw [show find h m g ag need false=none from iD (by intro e;have e2:=bO.1 e.1;omega)];rfl),_,_,_,_,_,_,_,rfl,rfl,rfl,rfl⟩
    ·refine aB ?_ ?_ <;> intro hg28
     ·refine aB ?_ ?_ <;> intro hb
      ·refine tn _ _ _ ?_
       exact ⟨(by rw [show find h m g ag need false=none from iD (by intro e;have e2:=bO.1 e.1;omega)];rfl),_,_,_,_,_,_,_,rfl,rfl,rfl,rfl⟩
      ·refine tn _ _ _ ?_
       exact ⟨(),⟨bO.2 ⟨by simpa using gm,by omega,by omega⟩,by omega⟩,(by repeat' first|exact rfl|refine And.intro ?_ ?_|exact True.intro)⟩
     ·refine tn _ _ _ ?_
      exact ⟨(),⟨bO.2 ⟨by simpa using gm,by omega,by omega⟩,by omega⟩,(by repeat' first|exact rfl|refine And.intro ?_ ?_|exact True.intro)⟩
 have Gy:=bO.1 uW.1
 have hx0:=cC Gy.2.1
 have ny:=dU Gy.1 hx0
 have hmo:=dB ny
 obtain ⟨y,hy⟩:∃ y,(cE h m.toNat).aa[g.toNat]? = some y:=⟨_,List.getElem?_eq_getElem (by omega)⟩
 have oX:c9 h m.toNat g.toNat=y:=jF hx0 hy
 have CN:bL y=true:=(by simp only [eO,Bool.and_eq_true] at ny;exact List.all_eq_true.1 ny.1.1.2 y (List.mem_of_getElem? hy))
 have hml:=(List.getElem?_eq_some_iff.1 hx0).1
 have O2:=(List.getElem?_eq_some_iff.1 hy).1
 have sJ:Q (bf (cE h m.toNat)):=⟨j6.h _ (List.mem_of_getElem? hx0)⟩
 have qy:Q (aG y):=⟨j6.h y (List.mem_of_getElem? hy)⟩
 refine JW.cut 4 [1,2,3,4,5,6,7,14] [] [1000000] (fun (q:Int)=>[.set 17 (I q), .set 19 (I (bZ m g))]) (fun (q:Int)=>[(1000000,⟨false,([.own (.sl 1 ((hD h m q need).au.map aN)), .own (.sl 9 ((hD h m q need).ap.map bh)), .own (.sl 4 ((hD h m q need).Buffer.map aA)), .own (.sl 4 ((hD h m q need).aC.map aA))] ++ [.ref ⟨1000000,[(1,ci),(3,cj)],0⟩, .ref ⟨1000000,[(1,ci),(3,cj)],3⟩, .ref ⟨1000000,[(1,ci),(3,cj)],4⟩, .ref ⟨1000000,[(1,ci),(3,cj)],14⟩])⟩)]) (fun (q:Int)=>bn (c9 h m.toNat g.toNat).Live ag need=some q∧0 ≤ q∧q < 8) (by exact rfl) ?_
 refine ⟨fun J2 D7=> ?_,fun q hj2=> ?_⟩
 ·refine aZ ?_
  refine aI (by assumption) ?_
  refine aI (by assumption) ?_
  refine aZ ?_
  refine aI (by assumption) ?_
  refine aI (by assumption) ?_
  refine ak (s4 y.Live ag need).k ?_
  refine aB ?_ ?_ <;> intro gY
  ·refine D7 _ _ _ ?_
   exact ⟨(by rw [show find h m g ag need false=none from Eb uW oX (by assumption)];rfl),_,_,_,_,_,_,_,rfl,rfl,rfl,rfl⟩
  ·refine ah (pQ m g).k ?_
   have Px:=xB (by assumption:(bn y.Live ag need).isSome=true)
   have Vq:=n5 CN Px
   refine aB ?_ ?_ <;> intro tY
   ·refine aZ ?_
    refine aI (by assumption) ?_
    refine aI (by assumption) ?_
    refine aZ ?_
    refine aI (by assumption) ?_
    refine rA (fun z10 hz10 qz10 lz10=> ?_)
    refine D7 _ _ _ ?_
    exact ⟨((bn y.Live ag need).getD (-1)),⟨by rw [oX];exact Px,Vq⟩,(by repeat' first|exact rfl|refine And.intro ?_ ?_|exact True.intro|(refine eV ?_;exact congrArg (fun l:List D=>(⟨false,l.map C.own ++ [.ref ⟨1000000,[(1,ci),(3,cj)],0⟩, .ref ⟨1000000,[(1,ci),(3,cj)],3⟩, .ref ⟨1000000,[(1,ci),(3,cj)],4⟩, .ref ⟨1000000,[(1,ci),(3,cj)],14⟩]⟩:Rt)) (xz (by exact hx0) (by omega));done))⟩
   ·refine D7 _ _ _ ?_
    exact ⟨((bn y.Live ag need).getD (-1)),⟨by rw [oX];exact Px,Vq⟩,(by repeat' first|exact rfl|refine And.intro ?_ ?_|exact True.intro|(refine eV ?_;exact congrArg (fun l:List D=>(⟨false,l.map C.own ++ [.ref ⟨1000000,[(1,ci),(3,cj)],0⟩, .ref ⟨1000000,[(1,ci),(3,cj)],3⟩, .ref ⟨1000000,[(1,ci),(3,cj)],4⟩, .ref ⟨1000000,[(1,ci),(3,cj)],14⟩]⟩:Rt)) (xA (by omega));done))⟩
 have hsm:=(by assumption:Q (aj h)).h
 obtain ⟨x,z,k,y2,eT,XD⟩:=xo (need:=need) uW.1 hsm hj2.2
 have qd:Q (aj (hD h m q need)):=eT.hs.q
 refine JW.cut 2 [2,3,4,5,6,7,14,17,19] [] [20] (fun (_u:Unit)=>[.set 20 (.one (.ptr ⟨20,[],0⟩))]) (fun (_u:Unit)=>[(20,⟨true,[.own (.v (.int .i64 ((cK (hD h m q need).Buffer (bZ m g) ag).getD MG).Tag)), .own (.v (.int .i64 ((cK (hD h m q need).Buffer (bZ m g) ag).getD MG).aJ)), .own (.v (.int .i64 ((cK (hD h m q need).Buffer (bZ m g) ag).getD MG).Host)), .own (.v (.int .i64 ((cK (hD h m q need).Buffer (bZ m g) ag).getD MG).aT))]⟩)]) (fun (_u:Unit)=>nt (hD h m q need) false m g ag need=none) (by exact rfl) ?_
 refine ⟨fun J3 Py=> ?_,fun _u Vr=> ?_⟩
 ·refine ak (tc (hD h m q need).Buffer (bZ m g) ag).k ?_
  refine aB ?_ ?_ <;> intro hg1
  ·refine ah (kn _ _).k ?_
   refine aB ?_ ?_ <;> intro yW
   ·refine fW [0,1,2,3] [] [] (.fork (.alt 0 (.fork (.alt 1 (.fork (.alt 2 (.fork (.alt 3 (.quiet 4 0 (.quiet 5 0 .done)) .stop)) (.alt 3 (.fork (.alt 2 (.quiet 4 0 (.quiet 5 0 .done)) .stop)) .stop))) (.alt 3 (.fork (.alt 1 (.fork (.alt 2 (.quiet 4 0 (.quiet 5 0 .done)) .stop)) .stop)) .stop))) (.alt 1 (.fork (.alt 0 (.fork (.alt 2 (.fork (.alt 3 (.quiet 4 0 (.quiet 5 0 .done)) .stop)) (.alt 3 (.fork (.alt 2 (.quiet 4 0 (.quiet 5 0 .done)) .stop)) .stop))) (.alt 2 (.fork (.alt 0 (.fork (.alt 3 (.quiet 4 0 (.quiet 5 0 .done)) .stop)) .stop)) .stop))) .stop))) ?_
    repeat' first|exact True.intro|refine And.intro ?_ ?_
    all_goals (
     refine Py _ _ _ ?_
     (exact ⟨(by rw [show find h m g ag need false=_ from Ec uW hj2.1 (by assumption) (by assumption)];rfl),_,_,_,_,_,_,_,rfl,rfl,rfl,rfl⟩))
   ·refine Py _ _ _ ?_
    exact ⟨(),(wo (by right;assumption)),(by repeat' first|exact rfl|refine And.intro ?_ ?_|exact True.intro)⟩
  ·refine Py _ _ _ ?_
   exact ⟨(),(wo (by left;assumption)),(by repeat' first|exact rfl|refine And.intro ?_ ?_|exact True.intro)⟩
 obtain ⟨x2,k2,hme⟩:=B6 (ag:=ag) (need:=need) eT
 have hkk:=uv eT.hx eT.hk
 have qk:Q (de k):=⟨(eT.hs.sm eT.hx).2.2.2.2.2.2 k (List.mem_of_getElem? eT.hk)⟩
 have qk2:Q (de k2):=⟨(hme.hs.sm hme.hx).2.2.2.2.2.2 k2 (List.mem_of_getElem? hme.hk)⟩
 have qm:Q (aj (cL (hD h m q need) m.toNat q.toNat need)):=hme.hs.q
 have qx2:Q (bf x2):=⟨hme.hs.sm hme.hx⟩
 have YM:(hD h m q need).ap[m.toNat]? = some x:=eT.hx
 have hak:=eT.hk
 have He:(cL (hD h m q need) m.toNat q.toNat need).ap[m.toNat]? = some x2:=hme.hx
 have hbk:=hme.hk
 have hby:=hme.hy
 have qx1:Q (bf x):=⟨eT.hs.sm eT.hx⟩
 have l1:=(List.getElem?_eq_some_iff.1 YM).1
 have l2:=(List.getElem?_eq_some_iff.1 hak).1
 have l3:=(List.getElem?_eq_some_iff.1 He).1
 have l4:=(List.getElem?_eq_some_iff.1 hbk).1
 have l5:=(List.getElem?_eq_some_iff.1 hby).1
 have l6:m.toNat < ((cL (hD h m q need) m.toNat q.toNat need).ap.map bh).length:=by rw [List.length_map];exact l3
 have l7:g.toNat < (x2.Tables.map bS).length:=by rw [List.length_map];exact l4
 refine JW.cut 2 [4,6,7,14,15,16,19,20] [] [22,7,139,1000000] (fun (c:Bool)=>[.set 22 (.one (.ptr ⟨22,[],0⟩))]) (fun (c:Bool)=>[(22,⟨true,[.own (.v (.int .i64 (bif c then ((ask (eg k2 y2.Live x2.ai ag) ag).getD bu) else ((ask k ag).getD bu)).aJ)), .own (.v (.int .i64 (bif c then ((ask (eg k2 y2.Live x2.ai ag) ag).getD bu) else ((ask k ag).getD bu)).aT))]⟩),(7,⟨true,bif c then [.ref ⟨139,[],0⟩, .ref ⟨139,[],1⟩, .ref ⟨139,[],2⟩, .ref ⟨139,[],3⟩] else [.ref ⟨1000000,[],0⟩, .ref ⟨1000000,[],1⟩, .ref ⟨1000000,[],2⟩, .ref ⟨1000000,[],3⟩]⟩),(139,⟨false,bif c then List.map C.own (r7 (cL (hD h m q need) m.toNat q.toNat need) m.toNat x2 g.toNat (eg k2 y2.Live x2.ai ag)) else []⟩),(1000000,⟨false,bif c then [.own .hole, .own .hole, .own .hole, .own .hole, .ref ⟨139,[(1,ci),(3,cj)],0⟩, .ref ⟨139,[(1,ci),(3,cj)],3⟩, .ref ⟨139,[(1,ci),(3,cj)],4⟩, .ref ⟨139,[(1,ci),(3,cj)],14⟩] else ([.own (.sl 1 ((hD h m q need).au.map aN)), .own (.sl 9 ((hD h m q need).ap.map bh)), .own (.sl 4 ((hD h m q need).Buffer.map aA)), .own (.sl 4 ((hD h m q need).aC.map aA))] ++ [.ref ⟨1000000,[(1,ci),(3,cj)],0⟩, .ref ⟨1000000,[(1,ci),(3,cj)],3⟩, .ref ⟨1000000,[(1,ci),(3,cj)],4⟩, .ref ⟨1000000,[(1,ci),(3,cj)],14⟩])⟩)]) (fun (c:Bool)=>lets (ask (kept (hD h m q need) m.toNat g.toNat) ag) need= !c) (by exact rfl) ?_
 refine ⟨fun J4 Ll=> ?_,fun c XL=> ?_⟩
 ·refine aZ ?_
  refine aI (by assumption) ?_
  refine aI (by assumption) ?_
  refine aZ ?_
  refine aI (by assumption) ?_
  refine aI (by assumption) ?_
  refine ak (kO k ag).k ?_
  refine aB ?_ ?_ <;> intro mS
  ·refine rp 1000000 [(1000000,0),(1000000,1),(1000000,2),(1000000,3)] (ph (mi:=m) (pi:=q) (row:=aq (hD h m q need)) (hD h m q need) m.toNat x q.toNat z need (by omega) (by omega) rfl (by omega) eT.hs eT.ha eT.hx eT.hz eT.sH ci cj) ?_
   refine cJ [35] [(0,0),(1,0),(2,0),(3,0),(4,0),(5,0),(6,0),(7,0),(8,0),(9,0),(10,0),(11,0),(12,0),(13,0),(14,0),(15,0),(16,0),(17,0),(18,0),(19,0),(20,0),(21,0),(22,0),(23,0),(24,0),(25,0),(26,0),(27,0),(28,0),(29,0),(30,0),(31,0),(32,0),(33,1),(34,0),(35,1)] ?_
   refine aZ ?_
   refine aI (by assumption) ?_
   refine aZ ?_
   refine aI (by assumption) ?_
   refine aI (by assumption) ?_
   refine aZ ?_
   refine aI (by assumption) ?_
   refine aI (by assumption) ?_
   refine aZ ?_
   refine aI (by assumption) ?_
   refine aI (by assumption) ?_
   refine aZ ?_
   refine aI (by assumption) ?_
   refine aI (by assumption) ?_
   refine aZ ?_
   refine aI (by assumption) ?_
   refine ak (mO k2 y2.Live x2.ai ag).k ?_
   refine aI (by assumption) ?_
   refine aZ ?_
   refine aI (by assumption) ?_
   refine aI (by assumption) ?_
   refine aZ ?_
   refine cA ?_
   refine cA ?_
   refine aZ ?_
   refine cA ?_
   refine cA ?_
   refine ak (kO (eg k2 y2.Live x2.ai ag) ag).k ?_ (by repeat first|exact rfl|refine eB.mk (by exact WD.w) ?_|refine cA ?_)
   refine Ll _ _ _ ?_
   exact ⟨true,(iE (by rw [hkk];(left;assumption))),(by repeat' first|exact rfl|refine And.intro ?_ ?_|exact True.intro)⟩
  ·refine aB ?_ ?_ <;> intro Hw
   ·refine rp 1000000 [(1000000,0),(1000000,1),(1000000,2),(1000000,3)] (ph (mi:=m) (pi:=q) (row:=aq (hD h m q need)) (hD h m q need) m.toNat x q.toNat z need (by omega) (by omega) rfl (by omega) eT.hs eT.ha eT.hx eT.hz eT.sH ci cj) ?_
    refine cJ [35] [(0,0),(1,0),(2,0),(3,0),(4,0),(5,0),(6,0),(7,0),(8,0),(9,0),(10,0),(11,0),(12,0),(13,0),(14,0),(15,0),(16,0),(17,0),(18,0),(19,0),(20,0),(21,0),(22,0),(23,0),(24,0),(25,0),(26,0),(27,0),(28,0),(29,0),(30,0),(31,0),(32,0),(33,1),(34,0),(35,1)] ?_
    refine aZ ?_
    refine aI (by assumption) ?_
    refine aZ ?_
    refine aI (by assumption) ?_
    refine aI (by assumption) ?_
    refine aZ ?_
    refine aI (by assumption) ?_
    refine aI (by assumption) ?_
    refine aZ ?_
    refine aI (by assumption) ?_
    refine aI (by assumption) ?_
    refine aZ ?_
    refine aI (by assumption) ?_
    refine aI (by assumption) ?_
    refine aZ ?_
    refine aI (by assumption) ?_
    refine ak (mO k2 y2.Live x2.ai ag).k ?_
    refine aI (by assumption) ?_
    refine aZ ?_
    refine aI (by assumption) ?_
    refine aI (by assumption) ?_
    refine aZ ?_
    refine cA ?_
    refine cA ?_
    refine aZ ?_
    refine cA ?_
    refine cA ?_
    refine ak (kO (eg k2 y2.Live x2.ai ag) ag).k ?_ (by repeat first|exact rfl|refine eB.mk (by exact WD.w) ?_|refine cA ?_)
    refine Ll _ _ _ ?_
    exact ⟨true,(iE (by rw [hkk];(right;left;assumption))),(by repeat' first|exact rfl|refine And.intro ?_ ?_|exact True.intro)⟩
   ·refine ah (kn _ _).k ?_
    refine aB ?_ ?_ <;> intro CE
    ·refine rp 1000000 [(1000000,0),(1000000,1),(1000000,2),(1000000,3)] (ph (mi:=m) (pi:=q) (row:=aq (hD h m q need)) (hD h m q need) m.toNat x q.toNat z need (by omega) (by omega) rfl (by omega) eT.hs eT.ha eT.hx eT.hz eT.sH ci cj) ?_
     refine cJ [35] [(0,0),(1,0),(2,0),(3,0),(4,0),(5,0),(6,0),(7,0),(8,0),(9,0),(10,0),(11,0),(12,0),(13,0),(14,0),(15,0),(16,0),(17,0),(18,0),(19,0),(20,0),(21,0),(22,0),(23,0),(24,0),(25,0),(26,0),(27,0),(28,0),(29,0),(30,0),(31,0),(32,0),(33,1),(34,0),(35,1)] ?_
     refine aZ ?_
     refine aI (by assumption) ?_
     refine aZ ?_
     refine aI (by assumption) ?_
     refine aI (by assumption) ?_
     refine aZ ?_
     refine aI (by assumption) ?_
     refine aI (by assumption) ?_
     refine aZ ?_
     refine aI (by assumption) ?_
     refine aI (by assumption) ?_
     refine aZ ?_
     refine aI (by assumption) ?_
     refine aI (by assumption) ?_
     refine aZ ?_
     refine aI (by assumption) ?_
     refine ak (mO k2 y2.Live x2.ai ag).k ?_
     refine aI (by assumption) ?_
     refine aZ ?_
     refine aI (by assumption) ?_
     refine aI (by assumption) ?_
     refine aZ ?_
     refine cA ?_
     refine cA ?_
     refine aZ ?_
     refine cA ?_
     refine cA ?_
     refine ak (kO (eg k2 y2.Live x2.ai ag) ag).k ?_ (by repeat first|exact rfl|refine eB.mk (by exact WD.w) ?_|refine cA ?_)
     refine Ll _ _ _ ?_
     exact ⟨true,(iE (by rw [hkk];(right;right;assumption))),(by repeat' first|exact rfl|refine And.intro ?_ ?_|exact True.intro)⟩
    ·refine Ll _ _ _ ?_
     exact ⟨false,(by rw [hkk];exact tu (by assumption) (by assumption) (by assumption)),(by repeat' first|exact rfl|refine And.intro ?_ ?_|exact True.intro)⟩
 cases c
 ·refine JW.w ?_
  refine bk (mq (hD h m q need).Buffer ⟨bZ m g,ag,((ask k ag).getD bu).aJ,((ask k ag).getD bu).aT⟩).k ?_
  refine fW [0,1,2,3] [] [] (.fork (.alt 0 (.fork (.alt 1 (.fork (.alt 2 (.fork (.alt 3 (.quiet 4 0 (.quiet 5 0 .done)) .stop)) (.alt 3 (.fork (.alt 2 (.quiet 4 0 (.quiet 5 0 .done)) .stop)) .stop))) (.alt 3 (.fork (.alt 1 (.fork (.alt 2 (.quiet 4 0 (.quiet 5 0 .done)) .stop)) .stop)) .stop))) (.alt 1 (.fork (.alt 0 (.fork (.alt 2 (.fork (.alt 3 (.quiet 4 0 (.quiet 5 0 .done)) .stop)) (.alt 3 (.fork (.alt 2 (.quiet 4 0 (.quiet 5 0 .done)) .stop)) .stop))) (.alt 2 (.fork (.alt 0 (.fork (.alt 3 (.quiet 4 0 (.quiet 5 0 .done)) .stop)) .stop)) .stop))) .stop))) ?_
  repeat' first|exact True.intro|refine And.intro ?_ ?_
  all_goals first|exact ⟨_,_,_,_,_,_,_,rfl,rfl,rfl,rfl⟩|exact (by rw [show find h m g ag need false=_ from NC uW hj2.1 Vr hkk XL];rfl)
 ·refine JW.w ?_
  refine bk (mq (cL (hD h m q need) m.toNat q.toNat need).Buffer ⟨bZ m g,ag,((ask (eg k2 y2.Live x2.ai ag) ag).getD bu).aJ,((ask (eg k2 y2.Live x2.ai ag) ag).getD bu).aT⟩).k ?_
  refine fW [0,1,2,3] [] [] (.fork (.alt 0 (.fork (.alt 1 (.fork (.alt 2 (.fork (.alt 3 (.quiet 4 0 (.quiet 5 0 .done)) .stop)) (.alt 3 (.fork (.alt 2 (.quiet 4 0 (.quiet 5 0 .done)) .stop)) .stop))) (.alt 3 (.fork (.alt 1 (.fork (.alt 2 (.quiet 4 0 (.quiet 5 0 .done)) .stop)) .stop)) .stop))) (.alt 1 (.fork (.alt 0 (.fork (.alt 2 (.fork (.alt 3 (.quiet 4 0 (.quiet 5 0 .done)) .stop)) (.alt 3 (.fork (.alt 2 (.quiet 4 0 (.quiet 5 0 .done)) .stop)) .stop))) (.alt 2 (.fork (.alt 0 (.fork (.alt 3 (.quiet 4 0 (.quiet 5 0 .done)) .stop)) .stop)) .stop))) .stop))) ?_
  repeat' first|exact True.intro|refine And.intro ?_ ?_
  all_goals first|exact ⟨_,_,_,_,_,_,_,rfl,rfl,rfl,rfl⟩|exact (by rw [XM uW hj2.1 Vr hme XL,show find h m g ag need false=_ from A9 uW hj2.1 Vr hme XL];rfl)
section
variable {c:Code} {fn:Func} {f:FuncId} {pts:List TS} {P:Program}
theorem aF.wM {R:mR→Prop} (mk:List Nat) (n:Nat) (hf:P.funcs[f]? = some fn) (h:∀ w g0,iI pts→qF 0 pts fun e=>wC P w g0 n c e (YO mk []) (Kh P n fn.results.toList R)) 
  (hb:fn.body=some c:=by exact rfl) (hn:fn.ntmps=n:=by exact rfl) (eK:Nat.ble pts.length n=true:=by exact rfl) (hmk:(mk ++ []).Nodup:=by decide) (hml:∀ k ∈ mk,k < 1000000:=by decide):aF P f pts R:=by
 have hl:=Nat.le_of_ble_eq_true eK
 subst hn
 refine aF.of hf hb hl fun w g0=>TC.iI fun hM=>TC.marks mk hmk hml ?_
 obtain ⟨e,h1,h2⟩:=iR (m:=0) (h w g0 hM)
 rw [← GV,kW hl h1]
 exact (mJ h2).mono fun ex st hl=>tQ hl
theorem lO.wM {row:List D} {R:mR→Prop} (mk:List Nat) (n:Nat) (hf:P.funcs[f]? = some fn) 
  (hh:∀ w g0,iI pts→qF 0 pts fun e=>xU row fun cs=>wC P w g0 n c e (YO mk [(1000000,⟨false,cs⟩)]) (Kh P n fn.results.toList R))
  (hb:fn.body=some c:=by exact rfl) (hn:fn.ntmps=n:=by exact rfl) (eK:Nat.ble pts.length n=true:=by exact rfl) (hmk:(mk ++ [1000000]).Nodup:=by decide) (hml:∀ k ∈ mk,k < 1000000:=by decide):lO P f row pts R:=by
 have hl:=Nat.le_of_ble_eq_true eK
 subst hn
 refine eA.Om rfl hf hb hl fun w g0=>TC.iI fun hM=>TC.marks mk hmk hml ?_
 obtain ⟨e,h1,h2⟩:=iR (m:=0) (hh w g0 hM)
 rw [← GV,kW hl h1]
 exact (mJ (mY h2)).mono fun ex st hl=>tQ hl
end
end Go.Proofs.YtdliggkohdnipaaGreat.T
