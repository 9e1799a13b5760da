import Derived.Test.YtdliggkohdnipaaGreatQer
import Derived.Test.YtdliggkohdnipaaGreatRxr
import Derived.Test.YtdliggkohdnipaaGreatQbr
import Derived.Test.YtdliggkohdnipaaGreatNrr
import Derived.Test.YtdliggkohdnipaaGreatNsr
import Derived.Test.YtdliggkohdnipaaGreatQir
import Derived.Test.YtdliggkohdnipaaGreatQfr
import Derived.Test.YtdliggkohdnipaaGreatQdr
import Derived.Test.YtdliggkohdnipaaGreatQtr
import Derived.Test.YtdliggkohdnipaaGreatOcr
import Derived.Test.YtdliggkohdnipaaGreatRpr
import Derived.Test.YtdliggkohdnipaaGreatHbr
import Derived.Test.YtdliggkohdnipaaGreatHdr
import Derived.Test.YtdliggkohdnipaaGreatHer
set_option linter.unusedVariables false
set_option linter.unusedSimpArgs false
namespace Go.Proofs.YtdliggkohdnipaaGreat.T
open Go
set_option maxRecDepth 100000
set_option maxHeartbeats 8000000
theorem DB {row:List D} (h:an) (m g ag need:Int) [Q (aj h)] (hr:row=aq h) (ci cj:Nat):
  j3 Tryz.prog 357 row [(1,ci),(3,cj)] [0,3,4,14] [.one (.agg [.ref ⟨1000000,[],0⟩, .ref ⟨1000000,[],1⟩, .ref ⟨1000000,[],2⟩, .ref ⟨1000000,[],3⟩]), .one (.c (.ref ⟨1000000,[],2⟩)),I m,I g,I ag,I need,B false] (RG [.a (aq (((find h m g ag need false).map fun q=>q.1).getD h)), .c (.v (.int .i64 (((find h m g ag need false).map fun q=>q.2).getD (-1)))), .c (.v (.bool (find h m g ag need false).isSome))]):=by
 subst hr
 exact GZ h m g ag need ci cj
theorem u5 (h:an) (m g:Int) (u:av) (wr:Bool) [Q (aj h)] (Jt:cG h m g=true) (hu:c9 h m.toNat g.toNat=u):lO Tryz.prog 340 (aq h) [.one (.agg [.ref ⟨1000000,[],0⟩, .ref ⟨1000000,[],1⟩, .ref ⟨1000000,[],2⟩, .ref ⟨1000000,[],3⟩]),I m,I g, .one (.agg [.ref ⟨1000000,[(1,m.toNat),(3,g.toNat)],0⟩, .ro (.v (.int .i64 u.A)), .ro (.v (.int .i64 u.Pc)), .ref ⟨1000000,[(1,m.toNat),(3,g.toNat)],3⟩, .ref ⟨1000000,[(1,m.toNat),(3,g.toNat)],4⟩, .ro (.v (.int .i64 u.iG.bq)), .ro (.v (.int .i64 u.iG.Post)), .ro (.v (.bool u.iG.Open)), .ro (.v (.int .i64 u.ax)), .ro (.v (.int .i64 u.Exit.Kind)), .ro (.v (.int .i64 u.Exit.aJ)), .ro (.v (.bool u.Exit.Write)), .ro (.v (.int .i64 u.Exit.N)), .ro (.v (.bool u.i_)), .ref ⟨1000000,[(1,m.toNat),(3,g.toNat)],14⟩]),B wr] (RG [.a (aq (ix h m.toNat g.toNat u wr))]):=by
 refine lO.wM [999997] 85 Tryz.func340 fun w g0 _=> ?_
 have Gy:=bO.1 Jt
 have hx0:=cC Gy.2.1
 have ny:=dU Gy.1 hx0
 have hy:(cE h m.toNat).aa[g.toNat]? = some u:=by
  obtain ⟨y,hy⟩:∃ y,(cE h m.toNat).aa[g.toNat]? = some y:=⟨_,List.getElem?_eq_getElem (by omega)⟩
  rw [← hu,jF hx0 hy]
  exact hy
 have CN:bL u=true:=(by simp only [eO,Bool.and_eq_true] at ny;exact List.all_eq_true.1 ny.1.1.2 u (List.mem_of_getElem? hy))
 have hml:=(List.getElem?_eq_some_iff.1 hx0).1
 have O2:=(List.getElem?_eq_some_iff.1 hy).1
 have sJ:Q (bf (cE h m.toNat)):=⟨j6.h _ (List.mem_of_getElem? hx0)⟩
 have qy:Q (aG u):=⟨j6.h u (List.mem_of_getElem? hy)⟩
 have hyr:=gj CN
 have hya:=D8 CN
 have qp:Q (-9223372036854775808 ≤ u.Pc):=⟨by omega⟩
 have qa:Q (address u ≤ 9223372036854775807):=⟨by omega⟩
 have hwi:= @Lp u
 have how:=PA ny
 refine ah (Fh u).k ?_
 refine CF [9,11,12,13,14,15] [] [] (.quiet 0 0 (.quiet 1 0 (.quiet 2 0 (.quiet 3 0 (.quiet 4 0 (.quiet 5 0 (.quiet 7 0 (.fork (.alt 6 (.fork (.alt 8 (.fork (.alt 9 (.quiet 10 0 (.fork (.alt 11 (.fork (.alt 12 (.fork (.alt 13 (.fork (.alt 14 (.fork (.alt 15 (.quiet 16 0 .done) .stop)) .stop)) (.alt 14 (.fork (.alt 13 (.fork (.alt 15 (.quiet 16 0 .done) .stop)) (.alt 15 (.fork (.alt 13 (.quiet 16 0 .done) .stop)) .stop))) .stop))) (.alt 13 (.fork (.alt 12 (.fork (.alt 14 (.fork (.alt 15 (.quiet 16 0 .done) .stop)) .stop)) (.alt 14 (.fork (.alt 12 (.fork (.alt 15 (.quiet 16 0 .done) .stop)) .stop)) .stop))) (.alt 14 (.fork (.alt 12 (.fork (.alt 13 (.fork (.alt 15 (.quiet 16 0 .done) .stop)) (.alt 15 (.fork (.alt 13 (.quiet 16 0 .done) .stop)) .stop))) (.alt 13 (.fork (.alt 12 (.fork (.alt 15 (.quiet 16 0 .done) .stop)) .stop)) .stop))) .stop)))) (.alt 12 (.fork (.alt 11 (.fork (.alt 13 (.fork (.alt 14 (.fork (.alt 15 (.quiet 16 0 .done) .stop)) .stop)) (.alt 14 (.fork (.alt 13 (.fork (.alt 15 (.quiet 16 0 .done) .stop)) (.alt 15 (.fork (.alt 13 (.quiet 16 0 .done) .stop)) .stop))) .stop))) (.alt 13 (.fork (.alt 11 (.fork (.alt 14 (.fork (.alt 15 (.quiet 16 0 .done) .stop)) .stop)) .stop)) .stop))) (.alt 13 (.fork (.alt 11 (.fork (.alt 12 (.fork (.alt 14 (.fork (.alt 15 (.quiet 16 0 .done) .stop)) .stop)) (.alt 14 (.fork (.alt 12 (.fork (.alt 15 (.quiet 16 0 .done) .stop)) .stop)) .stop))) (.alt 12 (.fork (.alt 11 (.fork (.alt 14 (.fork (.alt 15 (.quiet 16 0 .done) .stop)) .stop)) .stop)) .stop))) .stop))))) .stop)) .stop)) .stop))))))))) [1,2,4,5,8,10,11] [] [5,8,26,1000000] [.set 12 (I (nP h m g (tP u) (cu wr))), .set 13 (B (find h m g (tP u) (cu wr) false).isSome)] [(5,⟨true,[.ref ⟨26,[],0⟩, .ref ⟨26,[],1⟩, .ref ⟨26,[],2⟩, .ref ⟨26,[],3⟩]⟩),(8,⟨true,[.ref ⟨26,[(1,m.toNat),(3,g.toNat)],0⟩, .own (.v (.int .i64 u.A)), .own (.v (.int .i64 u.Pc)), .ref ⟨26,[(1,m.toNat),(3,g.toNat)],3⟩, .ref ⟨26,[(1,m.toNat),(3,g.toNat)],4⟩, .own (.v (.int .i64 u.iG.bq)), .own (.v (.int .i64 u.iG.Post)), .own (.v (.bool u.iG.Open)), .own (.v (.int .i64 u.ax)), .own (.v (.int .i64 u.Exit.Kind)), .own (.v (.int .i64 u.Exit.aJ)), .own (.v (.bool u.Exit.Write)), .own (.v (.int .i64 u.Exit.N)), .own (.v (.bool u.i_)), .ref ⟨26,[(1,m.toNat),(3,g.toNat)],14⟩]⟩),(26,⟨false,[.own (.sl 1 ((nH h m g (tP u) (cu wr)).au.map aN)), .own (.sl 9 ((nH h m g (tP u) (cu wr)).ap.map bh)), .own (.sl 4 ((nH h m g (tP u) (cu wr)).Buffer.map aA)), .own (.sl 4 ((nH h m g (tP u) (cu wr)).aC.map aA))]⟩)] ?_
 refine ⟨?_, ?_⟩
 ·repeat' first|exact True.intro|refine And.intro ?_ ?_|refine ah (me (address u)).k ?_|refine ah (Ho wr).k ?_|refine rp 8 [(1000000,0),(1000000,1),(1000000,2),(1000000,3)] (DB (row:=aq h) h m g (tP u) (cu wr) rfl m.toNat g.toNat) ?_|exact rfl
 obtain ⟨x2,tC,Vv⟩:=Pz (m:=m) (g:=g) (ag:=tP u) (need:=cu wr) (by assumption:Q (aj h)).h hx0
 have qn:Q (aj (nH h m g (tP u) (cu wr))):=inferInstance
 generalize XO:(nH h m g (tP u) (cu wr))=H2 at tC qn ⊢
 generalize hP2:(nP h m g (tP u) (cu wr))=P2
 have Q_:x2.aa[g.toNat]? = some u:=by rw [Vv];exact hy
 have qx2:Q (bf x2):=⟨qn.h.2.1.2 x2 (List.mem_of_getElem? tC)⟩
 have l1:=(List.getElem?_eq_some_iff.1 tC).1
 have l2:=(List.getElem?_eq_some_iff.1 Q_).1
 have l3:m.toNat < (H2.ap.map bh).length:=by rw [List.length_map];exact l1
 have l4:g.toNat < (x2.aa.map aY).length:=by rw [List.length_map];exact l2
 refine aB ?_ ?_ <;> intro hb
 ·refine cJ [14] [(0,0),(1,0),(2,0),(3,0),(4,0),(5,0),(6,0),(7,0),(8,0),(10,0),(9,1),(11,1),(12,1),(13,0),(14,1)] ?_
  refine aZ ?_
  refine aI tC ?_
  refine ah (me (address u)).k ?_
  refine ah (BL (tP u) wr).k ?_
  refine ak (fE u (ia (tP u) wr)).k ?_
  refine aI tC ?_
  refine aZ ?_
  refine aI tC ?_
  refine aI Q_ ?_
  exact (by show _=cR [RD.a (aq (ix h m.toNat g.toNat u wr))];rw [Lo (by omega) (by omega) (by assumption),nv _ _ _ _ _ hx0];have e2:=(Ln (by assumption:(find h m g (tP u) (cu wr) false).isSome=false)).symm.trans XO;subst e2;have e3:=Option.some.inj (hx0.symm.trans tC);subst e3;rfl)
 ·refine aB ?_ ?_ <;> intro gY
  ·refine cJ [9] [(0,0),(1,0),(2,0),(3,0),(5,0),(6,0),(4,1),(7,1),(8,0),(9,1)] ?_
   refine ah (mg (address u)).k ?_
   refine bk (o9 H2.au P2 (bT (address u)) u.A).k ?_
   refine cJ [10] [(0,0),(1,0),(2,0),(3,0),(4,0),(5,0),(6,0),(7,0),(8,1),(9,0),(10,1)] ?_
   refine aZ ?_
   refine aI tC ?_
   refine ak (Hx u).k ?_
   refine aI tC ?_
   refine aZ ?_
   refine aI tC ?_
   refine aI Q_ ?_
   exact (by show _=cR [RD.a (aq (ix h m.toNat g.toNat u wr))];rw [NG (by omega) (by omega) (by assumption) (by assumption),XO,hP2,nv _ _ _ _ _ (show ({ H2 with au:=ec H2.au P2 (bT (address u)) u.A }:an).ap[m.toNat]? = some x2 from tC)];rfl)
  ·refine cJ [16] [(0,0),(1,0),(2,0),(3,0),(4,0),(5,0),(6,0),(7,0),(8,0),(9,0),(10,0),(11,0),(12,1),(13,1),(14,1),(15,0),(16,1)] ?_
   refine aZ ?_
   refine aI tC ?_
   refine ah (mg (address u)).k ?_
   refine ah (yd H2.au P2 (bT (address u))).k ?_
   refine ak (Hy u (cellAt H2.au P2 (bT (address u)))).k ?_
   refine aI tC ?_
   refine aZ ?_
   refine aI tC ?_
   refine aI Q_ ?_
   exact (by show _=cR [RD.a (aq (ix h m.toNat g.toNat u wr))];rw [Q9 (by omega) (by omega) (by assumption) (by assumption),XO,hP2,nv _ _ _ _ _ tC];rfl)
section
variable {g m:Nat} {u:av} {h:an}
set_option maxRecDepth 100000
set_option maxHeartbeats 8000000
theorem G0 {row:List D} {mi gi:Int} (h:an) (m:Nat) (x:aO) (g:Nat) (u:av) (want:Int) [Q (aj h)] [Ch:Q (-9223372036854775808 ≤ u.Pc)] (hr:row=aq h) (Bj:mi=m) (hgi:gi=g) (ho:0 ≤ x.Own) (hx:h.ap[m]? = some x) (hu:x.aa[g]? = some u) (hw:want=5 ∨ want=6 ∨ want=7):
  lO Tryz.prog 341 row [.one (.agg [.ref ⟨1000000,[],0⟩, .ref ⟨1000000,[],1⟩, .ref ⟨1000000,[],2⟩, .ref ⟨1000000,[],3⟩]),I mi,I gi, .one (.agg [.ref ⟨1000000,[(1,m),(3,g)],0⟩, .ro (.v (.int .i64 u.A)), .ro (.v (.int .i64 u.Pc)), .ref ⟨1000000,[(1,m),(3,g)],3⟩, .ref ⟨1000000,[(1,m),(3,g)],4⟩, .ro (.v (.int .i64 u.iG.bq)), .ro (.v (.int .i64 u.iG.Post)), .ro (.v (.bool u.iG.Open)), .ro (.v (.int .i64 u.ax)), .ro (.v (.int .i64 u.Exit.Kind)), .ro (.v (.int .i64 u.Exit.aJ)), .ro (.v (.bool u.Exit.Write)), .ro (.v (.int .i64 u.Exit.N)), .ro (.v (.bool u.i_)), .ref ⟨1000000,[(1,m),(3,g)],14⟩]),I want] (RG [.a (aq { h with ap:=h.ap.set m (Jo x g u want) })]):=by
 subst hr Bj hgi
 exact Gl h m x g u want ho hx hu hw
theorem VM (h1:aH u=5 ∨ aH u=6 ∨ aH u=7):iJ h m g u={ h with ap:=h.ap.set m (Jo (cE h m) g u (aH u)) }:=by
 unfold Jo
 rcases h1 with h1|h1|h1
 rw [if_neg (by omega),Ee (.inl h1)];rfl
 rw [if_pos h1]
 unfold iJ
 rw [if_neg (by omega),if_neg (by omega),if_neg (by omega),if_neg (by omega),if_pos h1]
 rfl
 rw [if_neg (by omega),Ee (.inr h1)];rfl
theorem hst_1 (h1:aH u=1):iJ h m g u=iV h m g (interrupted u):=by unfold iJ;rw [if_pos h1]
theorem hst_2 (h1:aH u=2):iJ h m g u=iV h m g (gI u):=by unfold iJ;rw [if_neg (by omega),if_pos h1]
theorem Lt (h:an) (m:Int) (g:Int) [Q (aj h)]:aF Tryz.prog 336 [A (aq h),I m,I g] (RV (.bool (cG h m g))):=by
 refine aF.w 29 Tryz.func336 fun w g0 hM=> ?_
 have LK:=(inferInstance:dc h.ap 1048576).h
 have eK:=hM.1.2.1.map
 refine ah (ko h).k ?_
 refine aB ?_ ?_ <;> intro mS
 ·refine len ?_
  refine cD ?_
  refine ah (aE _ _ _).k ?_
  refine aB ?_ ?_ <;> intro Uv
  ·have hx0:h.ap[m.toNat]? = some (cE h m.toNat):=cC (by omega)
   have qm0:Q (bf (cE h m.toNat)):=⟨j6.h _ (List.mem_of_getElem? hx0)⟩
   have hlg:=(inferInstance:dc (cE h m.toNat).aa 1048576).h
   refine fN (by assumption) ?_
   skip
   skip
   refine len ?_
   refine cD ?_
   refine ah (aE _ _ _).k ?_
   exact ay (by refine congrArg Value.bool ?_;rw [Bool.eq_iff_iff,bO];(simp [*];omega))
  ·exact ay (by refine congrArg Value.bool ?_;rw [Bool.eq_iff_iff,bO];(simp [*];omega))
 ·exact ay (by refine congrArg Value.bool ?_;rw [Bool.eq_iff_iff,bO];(simp [*];done))
theorem DC (h:an) (m:Int) (g:Int) [Q (aj h)]:aF Tryz.prog 218 [A (aq h),I m,I g] (RG [.a (aq ((cn h m g).getD h)), .c (.v (.bool (cn h m g).isSome))]):=by
 refine aF.wM [999997] 74 Tryz.func218 fun w g0 hM=> ?_
 have eK:=hM.1.2.1.map
 refine ak (ct h).k ?_
 refine ah (Lt h m g).k ?_
 refine aB ?_ ?_ <;> intro hb
 exact (by rw [Ba (by simpa using hb)];rfl)
 have Jt:cG h m g=true:=by assumption
 have Gy:=bO.1 Jt
 have hx0:=cC Gy.2.1
 have ny:=dU Gy.1 hx0
 obtain ⟨y,hy⟩:∃ y,(cE h m.toNat).aa[g.toNat]? = some y:=⟨_,List.getElem?_eq_getElem (by omega)⟩
 have oX:c9 h m.toNat g.toNat=y:=jF hx0 hy
 have CN:bL y=true:=(by simp only [eO,Bool.and_eq_true] at ny;exact List.all_eq_true.1 ny.1.1.2 y (List.mem_of_getElem? hy))
 have hml:=(List.getElem?_eq_some_iff.1 hx0).1
 have O2:=(List.getElem?_eq_some_iff.1 hy).1
 have sJ:Q (bf (cE h m.toNat)):=⟨j6.h _ (List.mem_of_getElem? hx0)⟩
 have qy:Q (aG y):=⟨j6.h y (List.mem_of_getElem? hy)⟩
 have hyr:=gj CN
 have hya:=D8 CN
 have qp:Q (-9223372036854775808 ≤ y.Pc):=⟨by omega⟩
 have hwi:= @Lp y
 have how:=PA ny
 have l3:m.toNat < (h.ap.map bh).length:=by rw [List.length_map];exact hml
 have l4:g.toNat < ((cE h m.toNat).aa.map aY).length:=by rw [List.length_map];exact O2
 refine aZ ?_
 refine aI hx0 ?_
 refine aI hx0 ?_
 refine aZ ?_
 refine aI hx0 ?_
 refine aI hy ?_
 refine ah (sv y).k ?_
 refine aB ?_ ?_ <;> intro gY
 exact (by rw [GF (by rw [oX];omega)];rfl)
 refine aB ?_ ?_ <;> intro tY
 refine cJ [10] [(0,0),(1,0),(2,0),(3,0),(4,0),(5,0),(6,0),(7,0),(8,1),(9,0),(10,1)] ?_
 refine aZ ?_
 refine aI hx0 ?_
 refine ak (yX y).k ?_
 refine aI hx0 ?_
 refine aZ ?_
 refine aI hx0 ?_
 refine aI hy ?_
 exact (by show _=cR [RD.a (aq ((cn h m g).getD h)),RD.c (.v (.bool (cn h m g).isSome))];rw [iO Jt oX (by omega)];show _=cR [RD.a (aq (iJ h m.toNat g.toNat y)),RD.c (.v (.bool true))];rw [hst_1 (by omega),nv _ _ _ _ _ hx0];rfl)
 refine aB ?_ ?_ <;> intro yW
 refine cJ [10] [(0,0),(1,0),(2,0),(3,0),(4,0),(5,0),(6,0),(7,0),(8,1),(9,0),(10,1)] ?_
 refine aZ ?_
 refine aI hx0 ?_
 refine ak (Fk y).k ?_
 refine aI hx0 ?_
 refine aZ ?_
 refine aI hx0 ?_
 refine aI hy ?_
 exact (by show _=cR [RD.a (aq ((cn h m g).getD h)),RD.c (.v (.bool (cn h m g).isSome))];rw [iO Jt oX (by omega)];show _=cR [RD.a (aq (iJ h m.toNat g.toNat y)),RD.c (.v (.bool true))];rw [hst_2 (by omega),nv _ _ _ _ _ hx0];rfl)
 refine aB ?_ ?_ <;> intro CE
 refine jr [(11,0),(11,1),(11,2),(11,3)] (u5 h m g y (aH y == 4) Jt oX) ?_
 exact (by show _=cR [RD.a (aq ((cn h m g).getD h)),RD.c (.v (.bool (cn h m g).isSome))];rw [iO Jt oX (by omega)];show _=cR [RD.a (aq (iJ h m.toNat g.toNat y)),RD.c (.v (.bool true))];rw [Si (w:=(aH y == 4)) (by omega) rfl];rfl)
 refine aB ?_ ?_ <;> intro NX
 refine jr [(11,0),(11,1),(11,2),(11,3)] (u5 h m g y (aH y == 4) Jt oX) ?_
 exact (by show _=cR [RD.a (aq ((cn h m g).getD h)),RD.c (.v (.bool (cn h m g).isSome))];rw [iO Jt oX (by omega)];show _=cR [RD.a (aq (iJ h m.toNat g.toNat y)),RD.c (.v (.bool true))];rw [Si (w:=(aH y == 4)) (by omega) rfl];rfl)
 refine jr [(11,0),(11,1),(11,2),(11,3)] (G0 (row:=aq h) (mi:=m) (gi:=g) h m.toNat (cE h m.toNat) g.toNat y (aH y) rfl (by omega) (by omega) how hx0 hy (by omega)) ?_
 exact (by show _=cR [RD.a (aq ((cn h m g).getD h)),RD.c (.v (.bool (cn h m g).isSome))];rw [iO Jt oX (by omega)];show _=cR [RD.a (aq (iJ h m.toNat g.toNat y)),RD.c (.v (.bool true))];rw [VM (by omega)];rfl)
end
section
variable {k:Int} {a:gn}
set_option maxRecDepth 100000
set_option maxHeartbeats 8000000
theorem XU (h:I4 a=false):¬ (1 ≤ a.Kind∧a.Kind ≤ 17):=by simpa [I4] using h
theorem act_on (h:I4 a=true):1 ≤ a.Kind∧a.Kind ≤ 17:=by simpa [I4] using h
theorem VN (h:tV k=true):13 ≤ k∧k ≤ 17:=by simpa [tV] using h
theorem Sl (h:tV k=false):¬ (13 ≤ k∧k ≤ 17):=by simpa [tV] using h
theorem DD (h:an) (a:gn) [Q (aj h)] (ho:tV a.Kind=true):aF Tryz.prog 217 [A (aq h),A (BG a)] (RG [.a (aq (bF h a).1), .a (Um (bF h a).2)]):=by
 refine aF.w 59 Tryz.func217 fun w g0 _=> ?_
 have hko:=VN ho
 refine aB ?_ ?_ <;> intro hb
 refine ak (FC h a.M a.X).k ?_
 exact (by rw [VE (by assumption)];rfl)
 refine aB ?_ ?_ <;> intro gY
 refine ak (HW h a.M a.X).k ?_
 exact (by rw [VF (by assumption)];rfl)
 refine aB ?_ ?_ <;> intro tY
 refine ak (AA h a.M a.X).k ?_
 exact (by rw [VG (by assumption)];rfl)
 refine aB ?_ ?_ <;> intro yW
 refine ak (Dr h a.M a.X).k ?_
 exact (by rw [VH (by assumption)];rfl)
 refine ak (NJ h).k ?_
 exact (by rw [VI (by omega)];rfl)
theorem G1 (h:an) (a:gn) [Q (aj h)]:aF Tryz.prog 124 [A (aq h),A (BG a)] (RG [.a (aq (bF h a).1), .a (Um (bF h a).2)]):=by
 refine aF.w 195 Tryz.func124 fun w g0 _=> ?_
 refine ah (Ld a).k ?_
 refine aB ?_ ?_ <;> intro hb
 ·refine fW [0,2,3,4] [] [] (.fork (.alt 0 (.fork (.alt 1 (.fork (.alt 2 (.fork (.alt 3 (.fork (.alt 4 .done .stop)) .stop)) (.alt 3 (.fork (.alt 2 (.fork (.alt 4 .done .stop)) .stop)) .stop))) (.alt 2 (.fork (.alt 1 (.fork (.alt 3 (.fork (.alt 4 .done .stop)) .stop)) .stop)) .stop))) (.alt 2 (.fork (.alt 0 (.fork (.alt 1 (.fork (.alt 3 (.fork (.alt 4 .done .stop)) .stop)) .stop)) .stop)) .stop))) ?_
  repeat' first|exact True.intro|refine And.intro ?_ ?_|refine ak (ct h).k ?_
  all_goals exact (by rw [ha_0 (XU (by assumption))];rfl)
 ·refine ah (Gr a.Kind).k ?_
  refine aB ?_ ?_ <;> intro gY
  ·refine ak (DD h a (by assumption)).k ?_
   exact rfl
  ·refine aB ?_ ?_ <;> intro tY
   ·refine ak (DC h a.M a.G).k ?_
    refine fW [0,1,2,3] [] [] (.fork (.alt 0 (.fork (.alt 1 (.fork (.alt 2 (.fork (.alt 3 .done .stop)) .stop)) (.alt 2 (.fork (.alt 1 (.fork (.alt 3 .done .stop)) .stop)) .stop))) (.alt 1 (.fork (.alt 0 (.fork (.alt 2 (.fork (.alt 3 .done .stop)) .stop)) .stop)) .stop))) ?_
    repeat' first|exact True.intro|refine And.intro ?_ ?_
    all_goals exact (by rw [ha_1 (by assumption)];rfl)
   ·refine aB ?_ ?_ <;> intro yW
    ·refine ak (Gu h a.M a.G a.X ⟨a.Y,a.Z⟩).k ?_
     refine fW [0,1,2,3] [] [] (.fork (.alt 0 (.fork (.alt 1 (.fork (.alt 2 (.fork (.alt 3 .done .stop)) .stop)) (.alt 2 (.fork (.alt 1 (.fork (.alt 3 .done .stop)) .stop)) .stop))) (.alt 1 (.fork (.alt 0 (.fork (.alt 2 (.fork (.alt 3 .done .stop)) .stop)) .stop)) .stop))) ?_
     repeat' first|exact True.intro|refine And.intro ?_ ?_
     all_goals exact (by rw [ha_2 (by assumption)];rfl)
    ·refine aB ?_ ?_ <;> intro CE
     ·refine ak (Cb h a.M a.G a.X).k ?_
      refine fW [0,1,2,3] [] [] (.fork (.alt 0 (.fork (.alt 1 (.fork (.alt 2 (.fork (.alt 3 .done .stop)) .stop)) (.alt 2 (.fork (.alt 1 (.fork (.alt 3 .done .stop)) .stop)) .stop))) (.alt 1 (.fork (.alt 0 (.fork (.alt 2 (.fork (.alt 3 .done .stop)) .stop)) .stop)) .stop))) ?_
      repeat' first|exact True.intro|refine And.intro ?_ ?_
      all_goals exact (by rw [ha_3 (by assumption)];rfl)
     ·refine aB ?_ ?_ <;> intro NX
      ·refine ak (A3 h a.M a.G a.X).k ?_
       refine fW [0,1,2,3] [] [] (.fork (.alt 0 (.fork (.alt 1 (.fork (.alt 2 (.fork (.alt 3 .done .stop)) .stop)) (.alt 2 (.fork (.alt 1 (.fork (.alt 3 .done .stop)) .stop)) .stop))) (.alt 1 (.fork (.alt 0 (.fork (.alt 2 (.fork (.alt 3 .done .stop)) .stop)) .stop)) .stop))) ?_
       repeat' first|exact True.intro|refine And.intro ?_ ?_
       all_goals exact (by rw [ha_4 (by assumption)];rfl)
      ·refine aB ?_ ?_ <;> intro RS
       ·refine ak (A5 h a.M a.G).k ?_
        refine fW [0,1,2,3] [] [] (.fork (.alt 0 (.fork (.alt 1 (.fork (.alt 2 (.fork (.alt 3 .done .stop)) .stop)) (.alt 2 (.fork (.alt 1 (.fork (.alt 3 .done .stop)) .stop)) .stop))) (.alt 1 (.fork (.alt 0 (.fork (.alt 2 (.fork (.alt 3 .done .stop)) .stop)) .stop)) .stop))) ?_
        repeat' first|exact True.intro|refine And.intro ?_ ?_
        all_goals exact (by rw [ha_5 (by assumption)];rfl)
       ·refine aB ?_ ?_ <;> intro Xf
        ·refine ak (A7 h a.M a.G a.X).k ?_
         refine fW [0,1,2,3] [] [] (.fork (.alt 0 (.fork (.alt 1 (.fork (.alt 2 (.fork (.alt 3 .done .stop)) .stop)) (.alt 2 (.fork (.alt 1 (.fork (.alt 3 .done .stop)) .stop)) .stop))) (.alt 1 (.fork (.alt 0 (.fork (.alt 2 (.fork (.alt 3 .done .stop)) .stop)) .stop)) .stop))) ?_
         repeat' first|exact True.intro|refine And.intro ?_ ?_
         all_goals exact (by rw [ha_6 (by assumption)];rfl)
        ·refine aB ?_ ?_ <;> intro hb9
         ·refine fW [11,13] [11,13] [] (.quiet 0 0 (.quiet 1 0 (.quiet 2 0 (.quiet 3 0 (.quiet 4 0 (.quiet 5 0 (.fork (.alt 6 (.fork (.alt 7 (.quiet 8 1 (.quiet 9 1 (.quiet 10 1 (.fork (.alt 11 (.quiet 12 0 (.fork (.alt 13 .done .stop))) .stop))))) .stop)) .stop)))))))) ?_
          repeat' first|exact True.intro|refine And.intro ?_ ?_|(intro _ _)|refine ah (Le a).k ?_|refine ak (Gw h a.M a.G (CC a)).k ?_
          refine fW [0,1,2,3] [] [] (.fork (.alt 0 (.fork (.alt 1 (.fork (.alt 2 (.fork (.alt 3 .done .stop)) .stop)) (.alt 2 (.fork (.alt 1 (.fork (.alt 3 .done .stop)) .stop)) .stop))) (.alt 1 (.fork (.alt 0 (.fork (.alt 2 (.fork (.alt 3 .done .stop)) .stop)) .stop)) .stop))) ?_
          repeat' first|exact True.intro|refine And.intro ?_ ?_
          all_goals exact (by rw [ha_7 (by assumption)];rfl)
         ·refine aB ?_ ?_ <;> intro Uw
          ·refine ak (Dx h a.M a.X a.Y a.Z).k ?_
           refine fW [0,1,2,3] [] [] (.fork (.alt 0 (.fork (.alt 1 (.fork (.alt 2 (.fork (.alt 3 .done .stop)) .stop)) (.alt 2 (.fork (.alt 1 (.fork (.alt 3 .done .stop)) .stop)) .stop))) (.alt 1 (.fork (.alt 0 (.fork (.alt 2 (.fork (.alt 3 .done .stop)) .stop)) .stop)) .stop))) ?_
           repeat' first|exact True.intro|refine And.intro ?_ ?_
           all_goals exact (by rw [ha_8 (by assumption)];rfl)
          ·refine aB ?_ ?_ <;> intro Ux
           ·refine ak (Dq h a.M a.X).k ?_
            refine fW [0,1,2,3] [] [] (.fork (.alt 0 (.fork (.alt 1 (.fork (.alt 2 (.fork (.alt 3 .done .stop)) .stop)) (.alt 2 (.fork (.alt 1 (.fork (.alt 3 .done .stop)) .stop)) .stop))) (.alt 1 (.fork (.alt 0 (.fork (.alt 2 (.fork (.alt 3 .done .stop)) .stop)) .stop)) .stop))) ?_
            repeat' first|exact True.intro|refine And.intro ?_ ?_
            all_goals exact (by rw [ha_9 (by assumption)];rfl)
           ·refine aB ?_ ?_ <;> intro Xg
            ·refine ak (GI h a.M).k ?_
             refine fW [0,1,2,3] [] [] (.fork (.alt 0 (.fork (.alt 1 (.fork (.alt 2 (.fork (.alt 3 .done .stop)) .stop)) (.alt 2 (.fork (.alt 1 (.fork (.alt 3 .done .stop)) .stop)) .stop))) (.alt 1 (.fork (.alt 0 (.fork (.alt 2 (.fork (.alt 3 .done .stop)) .stop)) .stop)) .stop))) ?_
             repeat' first|exact True.intro|refine And.intro ?_ ?_
             all_goals exact (by rw [VB (by assumption)];rfl)
            ·refine aB ?_ ?_ <;> intro hb13
             ·refine ak (GC h a.M a.G a.X a.Y).k ?_
              refine fW [0,1,2,3] [] [] (.fork (.alt 0 (.fork (.alt 1 (.fork (.alt 2 (.fork (.alt 3 .done .stop)) .stop)) (.alt 2 (.fork (.alt 1 (.fork (.alt 3 .done .stop)) .stop)) .stop))) (.alt 1 (.fork (.alt 0 (.fork (.alt 2 (.fork (.alt 3 .done .stop)) .stop)) .stop)) .stop))) ?_
              repeat' first|exact True.intro|refine And.intro ?_ ?_
              all_goals exact (by rw [VC (by assumption)];rfl)
             ·refine ak (Du h a.M a.G a.X).k ?_
              refine fW [0,1,2,3] [] [] (.fork (.alt 0 (.fork (.alt 1 (.fork (.alt 2 (.fork (.alt 3 .done .stop)) .stop)) (.alt 2 (.fork (.alt 1 (.fork (.alt 3 .done .stop)) .stop)) .stop))) (.alt 1 (.fork (.alt 0 (.fork (.alt 2 (.fork (.alt 3 .done .stop)) .stop)) .stop)) .stop))) ?_
              repeat' first|exact True.intro|refine And.intro ?_ ?_
              all_goals exact (by rw [VD (by have h5:=act_on (by assumption:I4 a=true);have h6:=Sl (by assumption:tV a.Kind=false);omega)];rfl)
end
theorem Cd (h:an) (m:Int) (jT:List gn) [Q (aj h)] [Q (vw jT)]:aF Tryz.prog 43 [A (aq h),I m,L 6 (jT.map lP)] (RL 1 ((ep h m jT).map bH)):=by
 refine aF.w 36 Tryz.func43 fun w g0 hM=> ?_
 have eK:=hM.2.2.1.map
 refine ak (DA h m).k ?_
 refine aB ?_ ?_ <;> intro hb
 ·exact (by rw [VK (by assumption)];rfl)
 ·refine cI [1,2,3,6] [] [3,12] (fun (i:Nat)=>[.set 8 (I i)]) (fun (i:Nat)=>[(3,⟨true,[.own (.sl 1 ((jb bF (jT.take i) ((cY h m).getD h)).au.map aN)), .own (.sl 9 ((jb bF (jT.take i) ((cY h m).getD h)).ap.map bh)), .own (.sl 4 ((jb bF (jT.take i) ((cY h m).getD h)).Buffer.map aA)), .own (.sl 4 ((jb bF (jT.take i) ((cY h m).getD h)).aC.map aA))]⟩)]) (fun (i:Nat)=>i ≤ jT.length) (fun (i:Nat)=>jT.length - i) (0) (Nat.zero_le _) ?_
  refine ⟨hda,fun i hyp N1 bw=> ?_⟩
  have hyp:i ≤ jT.length:=hyp
  have P0:=(inferInstance:dc jT 1048576).h
  refine len ?_
  refine aB ?_ ?_ <;> intro gY
  ·obtain ⟨a,ha⟩:∃ a,jT[i]? = some a:=⟨_,List.getElem?_eq_getElem (by omega)⟩
   refine fW [9] [9] [] (.quiet 1 1 (.quiet 2 1 (.quiet 0 0 (.quiet 3 0 (.quiet 4 0 (.fork (.alt 5 (.quiet 6 1 (.quiet 7 1 (.quiet 8 1 (.fork (.alt 9 .done .stop))))) .stop))))))) ?_
   repeat' first|exact True.intro|refine And.intro ?_ ?_|(intro _ _)|refine fN ha ?_|refine cA ?_|refine aI (by assumption) ?_|refine rA (fun z1 Xc Xd Xe=> ?_)|refine ak (G1 (jb bF (jT.take i) ((cY h m).getD h)) a).k ?_
   refine cD ?_
   refine bw _ _ _ ?_
   refine iF (i + 1) (by omega) (by repeat' first|exact rfl|refine And.intro ?_ ?_|exact True.intro|(refine eV ?_;(rw [JB ha];done)))
  ·refine bw _ _ _ ?_
   refine bk (GS (jb bF (jT.take i) ((cY h m).getD h)) m).k ?_
   exact (by rw [Re (i:=i) (by assumption) (by omega)];rfl)
section
variable {m:Int}
set_option maxRecDepth 100000
set_option maxHeartbeats 8000000
theorem PE {h:an} (hh:aj h):c4 (tW h m):=by
 have q:Q (bf (dx h m)):=⟨Fx hh⟩
 have h1:(gG h m).length ≤ 1048576:=(inferInstance:dc (dx h m).a_ 1048576).h
 have h2:= @gQ (qP (gG h m)) (gG h m).length
 rw [zC]
 show (cz _ _).length ≤ _
 omega
theorem Lu {x:an} {l:List gn} (hx:aj x):c4 (ep x m l):=by
 have h1:=NN (m:=m) hx
 unfold ep
 cases e:cY x m with
 | none=>exact Nat.zero_le _
 | some q=>
  rw [e] at h1
  exact PE (GU h1)
theorem tB (x:an) (m:Int) (l:List gn) (hr:RngA l):aF Tryz.prog 9 [A (aq x),I m,L 6 (l.map lP)] (RV (.bool true)):=by
 refine aF.w 97 Tryz.func9 fun w g0 _=> ?_
 refine ah (HH x 1048576 (by omega) (by omega)).k ?_
 refine aB ?_ ?_ <;> intro hb
 exact rfl
 have hx0:0 ≤ mC x 1048576:=by omega
 have hx:=(I0 x 1048576 hx0).2 (by omega)
 have hle:=(I0 x 1048576 hx0).1
 have fL:=M_ x 1048576 hx0
 have hcn:=M6 x
 have:Q (aj x):=⟨hx⟩
 refine ah (HI l (mC x 1048576) (by omega) (by omega)).k ?_
 refine aB ?_ ?_ <;> intro gY
 exact rfl
 have JF:0 ≤ sj l (mC x 1048576):=by omega
 have hf:=(I1 l _ JF).2 (by omega)
 have hfl:=(I1 l _ JF).1
 have hcf:=O_ l _ JF
 have hcnf:=O6 l
 have:Q (vw l):=⟨hf⟩
 have LI:c4 (ep x m l):=Lu hx
 have hrc:=UN LI
 have hrn:=jV (ep x m l)
 have hxn0:=oS x.au
 have hxn1:=ze x.ap
 have hxn2:=k_ x.Buffer
 have hxn3:=k_ x.aC
 have hxn5:q6 x=di x.au + kA x.ap + fK x.Buffer + fK x.aC:=rfl
 refine ak (ow x hx).k ?_
 refine bk (ox l hf).k ?_
 refine bk (Cd x m l).k ?_
 refine ak (ow x hx).k ?_
 refine bk (ox l hf).k ?_
 refine bk (tA x m l hr).k ?_
 refine ah (ku (ep x m l) (ep x m l)).k ?_
 refine aB ?_ ?_ <;> intro tY
 (exfalso;first|omega|contradiction)
 refine cJ [] [(0,0),(1,0),(2,1),(3,1),(4,0)] ?_
 refine ak (ow x hx).k ?_
 refine ah (HO x x).k ?_
 refine aB ?_ ?_ <;> intro yW
 (exfalso;first|omega|contradiction)
 refine bk (ox l hf).k ?_
 refine ah (HP l l).k ?_
 refine aB ?_ ?_ <;> intro CE
 (exfalso;first|omega|contradiction)
 refine Af [(9,0),(9,1),(9,2),(9,3)] (Dc x 1 (by omega) (by omega) hx) ?_
 refine Af [(35,0)] (Dd l (1 + di x.au + kA x.ap + fK x.Buffer + fK x.aC) (by omega) (by omega) hf) ?_
 refine aB ?_ ?_ <;> intro mS
 (exfalso;omega)
 refine ah (ku (ep x m l) (ep x m l)).k ?_
 refine aB ?_ ?_ <;> intro NX
 (exfalso;first|omega|contradiction)
 refine Af [(39,0)] (mo (ep x m l) 1 (by omega) (by omega) LI) ?_
 refine ah (uR (ep x m l) 1 (by omega) (by omega) LI).k ?_
 refine aB ?_ ?_ <;> intro RS
 (exfalso;omega)
 refine aB ?_ ?_ <;> intro Xf
 (exfalso;omega)
 refine ak (ow x hx).k ?_
 refine bk (ox l hf).k ?_
 refine bk (tA x m l hr).k ?_
 refine ah (ku (ep x m l) (ep x m l)).k ?_
 refine aB ?_ ?_ <;> intro hb9
 (exfalso;first|omega|contradiction)
 refine ah (uR (ep x m l) 1 (by omega) (by omega) LI).k ?_
 refine aB ?_ ?_ <;> intro Uw
 (exfalso;omega)
 refine aB ?_ ?_ <;> intro Ux
 (exfalso;omega)
 exact rfl
end
end Go.Proofs.YtdliggkohdnipaaGreat.T
