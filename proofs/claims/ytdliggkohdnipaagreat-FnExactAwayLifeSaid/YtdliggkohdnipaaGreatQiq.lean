import Derived.Test.YtdliggkohdnipaaGreatQeq
import Derived.Test.YtdliggkohdnipaaGreatQdq
import Derived.Test.YtdliggkohdnipaaGreatQcq
set_option linter.unusedVariables false
set_option linter.unusedSimpArgs false
namespace Go.Proofs.YtdliggkohdnipaaGreat.T
open Go
section
variable {c g m p v:Int} {h:ap} {x:aV}
set_option maxRecDepth 100000
set_option maxHeartbeats 8000000
theorem Zy {F:aS→Option aS} (ho:(bC h m F).isSome=true):dI h m=true∧(F (bR (cK h m.toNat))).isSome=true:=by
 unfold bC at ho
 cases hm:dI h m with
 | false=>rw [hm] at ho;cases ho
 | true=>
  rw [hm,if_pos rfl] at ho
  refine ⟨rfl, ?_⟩
  cases e:F (bR (cK h m.toNat)) with
  | none=>rw [e] at ho;cases ho
  | some b=>rfl
abbrev FO (g p:Int):aS→Option aS:=fun b=>ew b g p
abbrev wP (h:ap) (m g p:Int):ap:=(bC h m (FO g p)).getD h
theorem Zz {b:aS} (hs:(ew b g p).isSome=true):0 ≤ g∧g < b.aa.length:=by
 unfold ew iu at hs
 split at hs
 cases e:m5 b.aa g with
 | none=>rw [e] at hs;cases hs
 | some x=>
  unfold m5 at e
  split at e
  rename_i h0
  have:=(aM.1 e).1
  omega
  cases e
 cases hs
structure Flu (h:ap) (m g p:Int) (x:aV) (k:cE):Prop where
 hm:dI h m=true
 h0:0 ≤ m∧0 ≤ g
 sm:aj (wP h m g p)
 hx:(wP h m g p).ai[m.toNat]? = some x
 hk:x.Tables[g.toNat]? = some k
theorem Ra (hs:aj h) (ho:(bC h m (FO g p)).isSome=true):∃ x k,Flu h m g p x k:=by
 obtain ⟨hm,h1⟩:=Zy ho
 have h2:=fN hm
 have hx:=cO h2.2
 have hg:=Zz h1
 have hmo:=dZ (eE h2.1 hx)
 have QC:g < (cK h m.toNat).aa.length:=hg.2
 obtain ⟨k,hk⟩:∃ k,(cK h m.toNat).Tables[g.toNat]? = some k:=⟨_,bg (by omega)⟩
 have hH:wP h m g p=kO h m.toNat ((FO g p (bR (cK h m.toNat))).getD (bR (cK h m.toNat))):=ul hm
 have tw:=hs.2.1.2 _ (aH hx)
 refine ⟨{ cK h m.toNat with aa:=((FO g p (bR (cK h m.toNat))).getD (bR (cK h m.toNat))).aa,av:=((FO g p (bR (cK h m.toNat))).getD (bR (cK h m.toNat))).av },k,hm,⟨h2.2.1,hg.1⟩, ?_,by rw [hH];exact dS hx,hk⟩
 rw [hH]
 exact SD hs hx (eG (gY tw) (za (gY tw)))
theorem zk (ho:(bC h m (FO g p)).isSome=false):dx h m g p=none:=by
 unfold dx
 have e:bC h m (fun b=>ew b g p)=none:=by
  cases e:bC h m (fun b=>ew b g p) with
  | none=>rfl
  | some q=>rw [show bC h m (FO g p)=some q from e] at ho;cases ho
 rw [e]
 rfl
theorem Xo (ho:(bC h m (FO g p)).isSome=false):wP h m g p=h:=by
 unfold wP
 cases e:bC h m (FO g p) with
 | none=>rfl
 | some q=>rw [e] at ho;cases ho
theorem vY {h:ap} {m g p:Int} {x:aV} {k:cE} (ho:(bC h m (FO g p)).isSome=true) (hf:Flu h m g p x k):
  dx h m g p=some { wP h m g p with ai:=(wP h m g p).ai.set m.toNat (Cq x g.toNat (forget k p)),Buffer:=bU (wP h m g p).Buffer (cq m g) p,aD:=bU (wP h m g p).aD (cq m g) p }:=by
 have e:bC h m (fun b=>ew b g p)=some (wP h m g p):=by
  show bC h m (FO g p)=some ((bC h m (FO g p)).getD h)
  cases e:bC h m (FO g p) with
  | none=>rw [e] at ho;cases ho
  | some q=>rfl
 have e3:setTable (wP h m g p) m.toNat g.toNat (forget (kept (wP h m g p) m.toNat g.toNat) p)={ wP h m g p with ai:=(wP h m g p).ai.set m.toNat (Cq x g.toNat (forget k p)) }:=by
  unfold setTable fT
  rw [vT hf.hx hf.hk,lZ hf.hx]
  rfl
 unfold dx
 rw [e]
 show some { setTable (wP h m g p) m.toNat g.toNat (forget (kept (wP h m g p) m.toNat g.toNat) p) with Buffer:=bU (setTable (wP h m g p) m.toNat g.toNat (forget (kept (wP h m g p) m.toNat g.toNat) p)).Buffer (cq m g) p,aD:=bU (setTable (wP h m g p) m.toNat g.toNat (forget (kept (wP h m g p) m.toNat g.toNat) p)).aD (cq m g) p }=_
 rw [e3]
theorem Ix {k:cE} (ho:(bC h m (FO g p)).isSome=true) (hf:Flu h m g p x k):
  aq ((dx h m g p).getD h)=tO { wP h m g p with Buffer:=bU (wP h m g p).Buffer (cq m g) p,aD:=bU (wP h m g p).aD (cq m g) p } m.toNat x g.toNat (forget k p):=by
 rw [vY ho hf]
 exact (kU { wP h m g p with Buffer:=bU (wP h m g p).Buffer (cq m g) p,aD:=bU (wP h m g p).aD (cq m g) p } m.toNat x g.toNat (forget k p)).symm
theorem yl (h:ap) (m g p:Int) [Q (aj h)]:aF Tryz.prog 271 [A (aq h),I m, .fn 274 [.b9 [.v (.int .i64 g)], .b9 [.v (.int .i64 p)]]] (RG [.a (aq (wP h m g p)), .c (.v (.bool (bC h m (FO g p)).isSome))]):=by
 unfold wP
 rw [← tN (F:=FO g p) Dp]
 exact lM h m (F:=FO g p) (.mk rfl rfl rfl) (fun b qb=>Cv b g p) (fun b hb=>eG hb (za hb))
theorem A9 {mi:Int} (h:ap) (m g p:Int) [Q (aj h)] (CA:mi=m) (hm:dI h m=true):ng Tryz.prog 344 (aq h) [.one (.agg [.ref ⟨1000000,[],0⟩, .ref ⟨1000000,[],1⟩, .ref ⟨1000000,[],2⟩, .ref ⟨1000000,[],3⟩]),I mi,A (bH ((ew (bR (cK h m.toNat)) g p).getD (bR (cK h m.toNat))))] (RG [.a (aq (wP h m g p))]):=by
 have h2:=fN hm
 have hx:=cO h2.2
 have hs:=(by assumption:Q (aj h)).h.2.1.2 _ (aH hx)
 have qv:Q (a_ ((ew (bR (cK h m.toNat)) g p).getD (bR (cK h m.toNat)))):=⟨eG (gY hs) (za (gY hs))⟩
 rw [show wP h m g p=kO h m.toNat ((ew (bR (cK h m.toNat)) g p).getD (bR (cK h m.toNat))) from ul hm]
 exact iq h m.toNat _ _ (by omega) hx
def ym (h:ap) (m p c v:Int):Bool:=ee h m p && jX c 0 3 && jX v 0 99
theorem K_:(gw h m fun b=>iG b p c v).getD h=h∧(gw h m fun b=>iG b p c v).isSome=ym h m p c v:=by
 unfold gw ym
 have e:ee h m p=(dI h m && jX p 0 7):=rfl
 rw [e]
 cases hm:dI h m with
 | false=>exact ⟨rfl,rfl⟩
 | true=>
  obtain ⟨g1,g2,g3⟩:=FJ hm
  have hx:=cO (fN hm).2
  rw [if_pos rfl]
  show ((iG (b8 h m) p c v).map (kO h m.toNat)).getD h=h∧((iG (b8 h m) p c v).map (kO h m.toNat)).isSome=(true && jX p 0 7 && jX c 0 3 && jX v 0 99)
  unfold iG
  rw [g1]
  simp only [jr]
  split
  rename_i hc
  rw [hc]
  refine ⟨?_,rfl⟩
  show fT h m.toNat { cK h m.toNat with aa:=(b8 h m).aa,av:=(b8 h m).av }=h
  rw [g2,g3]
  unfold fT
  show { h with ai:=h.ai.set m.toNat (cK h m.toNat) }=h
  rw [qj hx]
  rename_i hc
  refine ⟨rfl, ?_⟩
  cases hq:(jX p 0 7 && jX c 0 3 && jX v 0 99) with
  | true=>exact absurd hq hc
  | false=>rfl
theorem zG (h:ap) (m p c v:Int) [Q (aj h)]:aF Tryz.prog 271 [A (aq h),I m, .fn 286 [.b9 [.v (.int .i64 p)], .b9 [.v (.int .i64 c)], .b9 [.v (.int .i64 v)]]] (RG [.a (aq h), .c (.v (.bool (ym h m p c v)))]):=by
 have h1:=tM h m (F:=fun b=>iG b p c v) (.mk rfl rfl rfl) (fun b qb=>Du b p c v) (fun b hb=>eG hb (Zr hb))
 rw [K_.1,K_.2] at h1
 exact h1
theorem La:ym h m p c v=true ↔ ee h m p=true∧(0 ≤ c∧c ≤ 3)∧0 ≤ v∧v ≤ 99:=by
 unfold ym
 simp only [bh,decide_eq_true_eq,and_assoc]
theorem yo (ho:¬ (ee h m p=true∧(0 ≤ c∧c ≤ 3)∧0 ≤ v∧v ≤ 99)):jG h m p c v=none:=by
 unfold jG
 rw [if_neg]
 simp only [bh,decide_eq_true_eq,and_assoc]
 exact fun e=>ho (by obtain ⟨e1,e2,e3,e4,e5⟩:=e;exact ⟨e1,⟨e2,e3⟩,e4,e5⟩)
structure Pok (h:ap) (m p:Int) (x:aV) (z:aQ) (x2:aV) (z2:aQ):Prop where
 h0:0 ≤ m∧0 ≤ p
 hs:oV h
 ha:ku h
 hx:h.ai[m.toNat]? = some x
 hz:x.ak[p.toNat]? = some z
 uo:XT z
 Pv:oV (cP h m.toNat p.toNat 2)
 vg:(cP h m.toNat p.toNat 2).ai[m.toNat]? = some x2
 hz2:x2.ak[p.toNat]? = some z2
theorem MY (hh:aj h) (hp:ee h m p=true):∃ x z x2 z2,Pok h m p x z x2 z2:=by
 have BV:=fD.1 hp
 have hx:=cO BV.2.1
 have hmo:=dZ (eE BV.1 hx)
 have hs:=Mx BV.1 hh
 have ha:=B1 BV.1
 obtain ⟨z,hz⟩:∃ z,(cK h m.toNat).ak[p.toNat]? = some z:=⟨_,bg (by omega)⟩
 have uo:XT z:=by
  rcases hmo.2.2.2.2.2 z (aH hz) with rfl|h4
  exact ⟨by decide,by decide,fun _=>rfl⟩
  exact ⟨by omega,by omega,fun e=>by omega⟩
 have Pv:=OX (need:=2) hs ha hx hz
 obtain ⟨x2,vg,_⟩:=Di (need:=2) hs ha hx hz m.toNat _ hx
 have h8:=(Pv.cK vg).1
 obtain ⟨z2,hz2⟩:∃ z,x2.ak[p.toNat]? = some z:=⟨_,bg (by omega)⟩
 exact ⟨_,z,x2,z2,⟨BV.2.1.1,BV.2.2.1⟩,hs,ha,hx,hz,uo,Pv,vg,hz2⟩
theorem Dv {z:aQ} {x2:aV} {z2:aQ} (ho:ee h m p=true∧(0 ≤ c∧c ≤ 3)∧0 ≤ v∧v ≤ 99) (hk:Pok h m p x z x2 z2):
  jG h m p c v=some { cP h m.toNat p.toNat 2 with au:=eR (cP h m.toNat p.toNat 2).au z2.aN c v }:=by
 unfold jG
 rw [if_pos (by simp only [bh,decide_eq_true_eq,and_assoc];obtain ⟨e1,⟨e2,e3⟩,e4,e5⟩:=ho;exact ⟨e1,e2,e3,e4,e5⟩)]
 simp only
 rw [iv hk.vg hk.hz2]
theorem Dw (h:ap) (m:Int) (g:Int) (p:Int) [Q (aj h)]:aF Tryz.prog 162 [A (aq h),I m,I g,I p] (RG [.a (aq ((dx h m g p).getD h)), .c (.v (.bool (dx h m g p).isSome))]):=by
 refine aF.w 57 Tryz.func162 fun w g0 _=> ?_
 refine an (yl h m g p).k ?_
 refine aB ?_ ?_ <;> intro hb
 obtain ⟨x,k,hfl⟩:=Ra (by assumption:Q (aj h)).h (by assumption:(bC h m (FO g p)).isSome=true)
 have qf:Q (aj (wP h m g p)):=⟨hfl.sm⟩
 have hfx:=hfl.hx
 have hfk:=hfl.hk
 have Lk:=hfl.h0
 have qx:Q (bt x):=⟨hfl.sm.2.1.2 x (aH hfx)⟩
 have qk:Q (dR k):=⟨qx.h.2.2.2.2.2.2 k (aH hfk)⟩
 have l1:=(aM.1 hfx).1
 have l2:=(aM.1 hfk).1
 have l3:m.toNat < ((wP h m g p).ai.map bA).length:=by rw [aI];exact l1
 have l4:g.toNat < (x.Tables.map cz).length:=by rw [aI];exact l2
 refine cI [19] [(0,0),(1,0),(2,0),(3,0),(4,0),(5,0),(6,0),(7,0),(8,0),(9,0),(10,0),(11,0),(12,0),(13,0),(14,0),(15,0),(16,0),(17,1),(18,0),(19,1)] ?_
 refine bl ?_
 refine aL ‹_› ?_
 refine bl ?_
 refine aL ‹_› ?_
 refine aL ‹_› ?_
 refine bl ?_
 refine aL ‹_› ?_
 refine aL ‹_› ?_
 refine an (ud k p).k ?_
 refine aL ‹_› ?_
 refine bl ?_
 refine aL ‹_› ?_
 refine aL ‹_› ?_
 refine cI [8] [(0,0),(1,0),(2,0),(3,0),(5,0),(4,1),(6,1),(7,0),(8,1)] ?_
 refine ah (rG m g).k ?_
 refine bu (pK (wP h m g p).Buffer (cq m g) p).k ?_
 refine cI [8] [(0,0),(1,0),(2,0),(3,0),(5,0),(4,1),(6,1),(7,0),(8,1)] ?_
 refine ah (rG m g).k ?_
 refine bu (pK (wP h m g p).aD (cq m g) p).k ?_
 exact (by have PJ:(bC h m (FO g p)).isSome=true:=‹_›;show _=c7 [RD.a (aq ((dx h m g p).getD h)),RD.c (.v (.bool (dx h m g p).isSome))];rw [Ix PJ hfl,vY PJ hfl];rw [PJ];rfl)
 exact (by have PJ:(bC h m (FO g p)).isSome=false:=‹_›;show _=c7 [RD.a (aq ((dx h m g p).getD h)),RD.c (.v (.bool (dx h m g p).isSome))];rw [zk PJ,Xo PJ,PJ];rfl)
theorem Dx (h:ap) (m:Int) (g:Int) (p:Int) [Q (aj h)]:aF Tryz.prog 220 [A (aq h),I m,I g,I p] (RG [.a (aq ((dx h m g p).getD h)), .c (.v (.bool (dx h m g p).isSome))]):=by
 refine aF.w 74 Tryz.func220 fun w g0 hM=> ?_
 have K4:=(inferInstance:cX h.ai 1048576).h
 have eW:=hM.1.2.1.map
 refine an (cF h).k ?_
 refine ah (iN h m).k ?_
 refine aB ?_ ?_ <;> intro hb
 exact (by show _=c7 [RD.a (aq ((dx h m g p).getD h)),RD.c (.v (.bool (dx h m g p).isSome))];rw [zk (by rw [Ci (by simpa using hb)];rfl)];rfl)
 have hmo:=fN (by assumption:dI h m=true)
 have hx0:=cO (h:=h) (m:=m) (by omega)
 have hml:=(aM.1 hx0).1
 have nW:m.toNat < (h.ai.map bA).length:=by rw [aI];exact hml
 have u5:Q (bt (cK h m.toNat)):=⟨jW.h _ (aH hx0)⟩
 have hos:=tK (F:=FO g p) (by assumption:dI h m=true)
 have qv:Q (a_ ((ew (bR (cK h m.toNat)) g p).getD (bR (cK h m.toNat)))):=⟨eG (gY u5.h) (za (gY u5.h))⟩
 refine bl ?_
 refine aL ‹_› ?_
 refine an (ij (cK h m.toNat)).k ?_
 refine an (Dh (bR (cK h m.toNat)) g p).k ?_
 refine aB ?_ ?_ <;> intro iz
 exact (by show _=c7 [RD.a (aq ((dx h m g p).getD h)),RD.c (.v (.bool (dx h m g p).isSome))];rw [zk (by rw [hos];assumption)];rfl)
 have ho2:(bC h m (FO g p)).isSome=true:=by rw [hos];assumption
 obtain ⟨x,k,hfl⟩:=Ra (by assumption:Q (aj h)).h (by assumption:(bC h m (FO g p)).isSome=true)
 have qf:Q (aj (wP h m g p)):=⟨hfl.sm⟩
 have hfx:=hfl.hx
 have hfk:=hfl.hk
 have Lk:=hfl.h0
 have qx:Q (bt x):=⟨hfl.sm.2.1.2 x (aH hfx)⟩
 have qk:Q (dR k):=⟨qx.h.2.2.2.2.2.2 k (aH hfk)⟩
 have l1:=(aM.1 hfx).1
 have l2:=(aM.1 hfk).1
 have l3:m.toNat < ((wP h m g p).ai.map bA).length:=by rw [aI];exact l1
 have l4:g.toNat < (x.Tables.map cz).length:=by rw [aI];exact l2
 refine kf [(4,0),(4,1),(4,2),(4,3)] (A9 (mi:=m) h m g p rfl ‹_›) ?_
 refine cI [19] [(0,0),(1,0),(2,0),(3,0),(4,0),(5,0),(6,0),(7,0),(8,0),(9,0),(10,0),(11,0),(12,0),(13,0),(14,0),(15,0),(16,0),(17,1),(18,0),(19,1)] ?_
 refine bl ?_
 refine aL ‹_› ?_
 refine bl ?_
 refine aL ‹_› ?_
 refine aL ‹_› ?_
 refine bl ?_
 refine aL ‹_› ?_
 refine aL ‹_› ?_
 refine an (uf k p).k ?_
 refine aL ‹_› ?_
 refine bl ?_
 refine aL ‹_› ?_
 refine aL ‹_› ?_
 refine cI [8] [(0,0),(1,0),(2,0),(3,0),(5,0),(4,1),(6,1),(7,0),(8,1)] ?_
 refine ah (rF m g).k ?_
 refine bu (pJ (wP h m g p).Buffer (cq m g) p).k ?_
 refine cI [8] [(0,0),(1,0),(2,0),(3,0),(5,0),(4,1),(6,1),(7,0),(8,1)] ?_
 refine ah (rF m g).k ?_
 refine bu (pJ (wP h m g p).aD (cq m g) p).k ?_
 exact (by show _=c7 [RD.a (aq ((dx h m g p).getD h)),RD.c (.v (.bool (dx h m g p).isSome))];rw [Ix ho2 hfl,vY ho2 hfl];rfl)
theorem EW (h:ap) (m:Int) (p:Int) (c:Int) (v:Int) [Q (aj h)]:aF Tryz.prog 168 [A (aq h),I m,I p,I c,I v] (RG [.a (aq ((jG h m p c v).getD h)), .c (.v (.bool (jG h m p c v).isSome))]):=by
 refine aF.w 43 Tryz.func168 fun w g0 _=> ?_
 refine an (zG h m p c v).k ?_
 refine aB ?_ ?_ <;> intro hb
 have hpk:=La.1 (by assumption:ym h m p c v=true)
 obtain ⟨x,z,x2,z2,JD⟩:=MY (by assumption:Q (aj h)).h hpk.1
 have Qr:=JD.h0
 have qm:Q (aj (cP h m.toNat p.toNat 2)):=JD.Pv.q
 have hpx:=JD.vg
 have hpz:=JD.hz2
 have l1:=(aM.1 hpx).1
 have l2:=(aM.1 hpz).1
 have l3:m.toNat < ((cP h m.toNat p.toNat 2).ai.map bA).length:=by rw [aI];exact l1
 have l4:p.toNat < (x2.ak.map aT).length:=by rw [aI];exact l2
 refine qD 12 (mh (mi:=m) (pi:=p) (row:=aq h) h m.toNat x p.toNat z 2 (by omega) (by omega) rfl (by decide) JD.hs JD.ha JD.hx JD.hz JD.uo) ?_
 refine cI [16] [(0,0),(1,0),(2,0),(3,0),(4,0),(5,0),(6,0),(7,0),(8,0),(9,0),(10,0),(11,0),(12,0),(13,0),(14,1),(15,0),(16,1)] ?_
 refine bl ?_
 refine aL ‹_› ?_
 refine aL ‹_› ?_
 refine bl ?_
 refine aL ‹_› ?_
 refine aL ‹_› ?_
 refine bu (iD (cP h m.toNat p.toNat 2).au z2.aN c v).k ?_
 exact (by have PJ:ym h m p c v=true:=‹_›;rw [Dv hpk JD];rw [PJ];rfl)
 exact (by have PJ:ym h m p c v=false:=‹_›;rw [yo (fun e=>by rw [La.2 e] at PJ;cases PJ)];rw [PJ];rfl)
theorem EX (h:ap) (m:Int) (p:Int) (c:Int) (v:Int) [Q (aj h)]:aF Tryz.prog 226 [A (aq h),I m,I p,I c,I v] (RG [.a (aq ((jG h m p c v).getD h)), .c (.v (.bool (jG h m p c v).isSome))]):=by
 refine aF.w 51 Tryz.func226 fun w g0 hM=> ?_
 have eW:=hM.1.2.1.map
 refine an (cF h).k ?_
 refine ah (rI h m p).k ?_
 refine aB ?_ ?_ <;> intro Py
 exact (by rw [yo (by intro e;have e1:=e.1;simp_all;done)];rfl)
 refine ah (aE _ _ _).k ?_
 refine aB ?_ ?_ <;> intro TB
 exact (by rw [yo (by intro e;omega)];rfl)
 refine ah (aE _ _ _).k ?_
 refine aB ?_ ?_ <;> intro hb
 exact (by rw [yo (by intro e;omega)];rfl)
 have hpk:=(⟨by assumption,by omega,by omega⟩:ee h m p=true∧(0 ≤ c∧c ≤ 3)∧0 ≤ v∧v ≤ 99)
 obtain ⟨x,z,x2,z2,JD⟩:=MY (by assumption:Q (aj h)).h hpk.1
 have Qr:=JD.h0
 have qm:Q (aj (cP h m.toNat p.toNat 2)):=JD.Pv.q
 have hpx:=JD.vg
 have hpz:=JD.hz2
 have l1:=(aM.1 hpx).1
 have l2:=(aM.1 hpz).1
 have l3:m.toNat < ((cP h m.toNat p.toNat 2).ai.map bA).length:=by rw [aI];exact l1
 have l4:p.toNat < (x2.ak.map aT).length:=by rw [aI];exact l2
 refine kf [(5,0),(5,1),(5,2),(5,3)] (oI (mi:=m) (pi:=p) (row:=aq h) h m.toNat x p.toNat z 2 (by omega) (by omega) rfl (by decide) JD.hs JD.ha JD.hx JD.hz JD.uo) ?_
 refine cI [16] [(0,0),(1,0),(2,0),(3,0),(4,0),(5,0),(6,0),(7,0),(8,0),(9,0),(10,0),(11,0),(12,0),(13,0),(14,1),(15,0),(16,1)] ?_
 refine bl ?_
 refine aL ‹_› ?_
 refine aL ‹_› ?_
 refine bl ?_
 refine aL ‹_› ?_
 refine aL ‹_› ?_
 refine bu (q5 (cP h m.toNat p.toNat 2).au z2.aN c v).k ?_
 exact (by rw [Dv hpk JD];rfl)
end
section
variable {m:Int} {b:aS} {h:ap}
set_option maxRecDepth 100000
set_option maxHeartbeats 8000000
abbrev JE:aS→Option aS:=fun b=>(gh b).map Prod.fst
theorem ZA:Alk JE:=fun b c hb hc hg hp=>by
 show ((gh b).map Prod.fst).map _=((gh c).map Prod.fst).map _
 unfold gh
 rw [hb,hc,hp,if_pos rfl,if_pos rfl]
 cases gW c.av with
 | none=>rfl
 | some q=>
  show some (b.aa,q.1)=some (c.aa,q.1)
  rw [hg]
theorem MZ (hb:a_ b):a_ ((JE b).getD b):=by
 unfold JE gh
 split
 cases gW b.av with
 | none=>exact hb
 | some q=>exact hb
 exact hb
theorem ZB {c:aS} (hb:dg b=true) (hc:dg c=true) (hp:b.av=c.av):u9 b=u9 c:=by
 unfold u9 gh
 rw [hb,hc,hp,if_pos rfl,if_pos rfl]
 cases gW c.av <;> rfl
theorem Lb:((dW h m).map fun q=>q.1)=bC h m JE:=by
 unfold dW bC JE
 cases dI h m with
 | false=>rfl
 | true=>
  rw [if_pos rfl,if_pos rfl]
  cases gh (bR (cK h m.toNat)) <;> rfl
theorem Xp:(dW h m).isSome=(bC h m JE).isSome:=by
 rw [← Lb]
 cases dW h m <;> rfl
theorem ack_n (hm:dI h m=true):((dW h m).map fun q=>q.2).getD (-1)=u9 (bR (cK h m.toNat)):=by
 unfold dW u9
 rw [hm,if_pos rfl]
 cases gh (bR (cK h m.toNat)) <;> rfl
theorem Xq (hm:dI h m=false):((dW h m).map fun q=>q.2).getD (-1)= -1:=by
 unfold dW
 rw [hm]
 rfl
theorem ack_ns:(bif dI h m then u9 (b8 h m) else -1)=((dW h m).map fun q=>q.2).getD (-1):=by
 cases hm:dI h m with
 | false=>rw [Xq hm];rfl
 | true=>
  obtain ⟨g1,g2,g3⟩:=FJ hm
  have h2:=fN hm
  rw [ack_n hm]
  exact ZB g1 (SG (eE h2.1 (cO h2.2))) g3
theorem EY (b:aS) (n:Int) [Q (a_ b)]:eH Tryz.prog 291 (⟨true,[.v (.int .i64 n)]⟩) [A (bH b), .one (.ptr ⟨1000001,[],0⟩)] (RX [.v (.int .i64 (u9 b))] [.a (bH ((JE b).getD b)), .c (.v (.bool (JE b).isSome))]):=by
 refine eH.w 17 Tryz.func291 fun w g0 _=> ?_
 refine an (Ih b).k ?_
 exact (by refine ⟨rfl, ?_⟩;show _=c7 [RD.a (bH (Dn b)),RD.c (.v (.bool ((gh b).map Prod.fst).isSome))];rw [Option.isSome_map];rfl)
theorem Dy (h:ap) (m n:Int) {F:aS→Option aS} {N:aS→Int} {f:FuncId} [Q (aj h)] (hf:ep Tryz.prog f) (hF:∀ b n,Q (a_ b)→eH Tryz.prog f ⟨true,[.v (.int .i64 n)]⟩ [A (bH b), .one (.ptr ⟨1000001,[],0⟩)] (RX [.v (.int .i64 (N b))] [.a (bH ((F b).getD b)), .c (.v (.bool (F b).isSome))])) (hS:∀ b,a_ b→a_ ((F b).getD b)):eH Tryz.prog 271 (⟨true,[.v (.int .i64 n)]⟩) [A (aq h),I m, .fn f [.ptr ⟨1000001,[],0⟩]] (RX [.v (.int .i64 (bif dI h m then N (b8 h m) else n))] [.a (aq ((gw h m F).getD h)), .c (.v (.bool (gw h m F).isSome))]):=by
 refine eH.w 51 Tryz.func271 fun w g0 hM=> ?_
 have K4:=(inferInstance:cX h.ai 1048576).h
 have eW:=hM.1.2.1.map
 refine an (aY h).k ?_
 refine ah (gX h).k ?_
 refine aB ?_ ?_ <;> intro gK
 exact (by rw [yg (by left;simpa using gK)];refine ⟨rfl, ?_⟩;rw [tJ (by left;simpa using gK)];rfl)
 refine len ?_
 refine ah (bM _ _).k ?_
 refine aB ?_ ?_ <;> intro hb
 exact (by rw [yg (by first|(left;simpa using gK)|(right;omega))];refine ⟨rfl, ?_⟩;rw [tJ (by first|(left;simpa using gK)|(right;omega))];rfl)
 refine an (lC h m).k ?_
 refine YG 1000001 (hF (b8 h m) n inferInstance) ?_ (hf:=hf)
 refine aB ?_ ?_ <;> intro iz
 have qb:Q (a_ ((F (b8 h m)).getD (b8 h m))):=⟨hS _ (rU (by assumption:Q (aj h)).h)⟩
 have hx0:=cO (h:=h) (m:=m) (by omega)
 have hml:=(aM.1 hx0).1
 have nW:m.toNat < (h.ai.map bA).length:=by rw [aI];exact hml
 have u5:Q (bt (cK h m.toNat)):=⟨jW.h _ (aH hx0)⟩
 refine cI [8] [(0,0),(1,0),(2,0),(3,0),(4,0),(5,1),(6,0),(7,0),(8,1)] ?_
 refine bu (gq ((F (b8 h m)).getD (b8 h m)).aa).k ?_
 first|refine dM ‹_› ?_|refine di ?_|refine bl ?_
 first|refine cJ ?_|refine aL ‹_› ?_
 first|refine dM ‹_› ?_|refine di ?_|refine bl ?_
 refine cJ ?_
 exact (by rw [vW (by simpa using gK) (by omega)];refine ⟨rfl, ?_⟩;show _=c7 [RD.a (aq ((gw h m F).getD h)),RD.c (.v (.bool (gw h m F).isSome))];rw [Ch (by simpa using gK) (by omega) ‹_›,yh h m.toNat _ _ hx0];rfl)
 exact (by rw [vW (by simpa using gK) (by omega)];refine ⟨rfl, ?_⟩;show _=c7 [RD.a (aq ((gw h m F).getD h)),RD.c (.v (.bool (gw h m F).isSome))];rw [y_ ‹_›];rfl)
end
set_option maxRecDepth 100000
set_option maxHeartbeats 8000000
theorem A_ (h:ap) (m:Int) [Q (aj h)]:eH Tryz.prog 271 ⟨true,[.v (.int .i64 (-1))]⟩ [A (aq h),I m, .fn 291 [.ptr ⟨1000001,[],0⟩]] (RX [.v (.int .i64 (((dW h m).map fun q=>q.2).getD (-1)))] [.a (aq (((dW h m).map fun q=>q.1).getD h)), .c (.v (.bool (dW h m).isSome))]):=by
 have h1:=Dy h m (-1) (F:=JE) (N:=u9) (.mk rfl rfl rfl) (fun b n qb=>EY b n) (fun b hb=>MZ hb)
 rw [ack_ns,tN ZA, ← Lb] at h1
 rw [Xp, ← Lb]
 exact h1
theorem Iy (h:ap) (m:Int) [Q (aj h)]:aF Tryz.prog 170 [A (aq h),I m] (RG [.a (aq (((dW h m).map fun q=>q.1).getD h)), .c (.v (.int .i64 (((dW h m).map fun q=>q.2).getD (-1)))), .c (.v (.bool (dW h m).isSome))]):=by
 refine aF.w 20 Tryz.func170 fun w g0 _=> ?_
 refine callXG 7 (A_ h m) ?_
 refine gp [0,1,2,3,4] [] [] (.fork (.alt 0 (.fork (.alt 1 (.fork (.alt 2 (.fa 3 (.fa 4 (.quiet 5 0 .done))) (.alt 3 (.fork (.alt 2 (.fa 4 (.quiet 5 0 .done)) (.alt 4 (.fa 2 (.quiet 5 0 .done)) .stop))) .stop))) (.alt 2 (.fork (.alt 1 (.fa 3 (.fa 4 (.quiet 5 0 .done))) (.alt 3 (.fa 1 (.fa 4 (.quiet 5 0 .done))) .stop))) (.alt 3 (.fork (.alt 1 (.fork (.alt 2 (.fa 4 (.quiet 5 0 .done)) (.alt 4 (.fa 2 (.quiet 5 0 .done)) .stop))) (.alt 2 (.fa 1 (.fa 4 (.quiet 5 0 .done))) .stop))) .stop)))) (.alt 1 (.fork (.alt 0 (.fork (.alt 2 (.fa 3 (.fa 4 (.quiet 5 0 .done))) (.alt 3 (.fork (.alt 2 (.fa 4 (.quiet 5 0 .done)) (.alt 4 (.fa 2 (.quiet 5 0 .done)) .stop))) .stop))) (.alt 2 (.fa 0 (.fa 3 (.fa 4 (.quiet 5 0 .done)))) .stop))) (.alt 2 (.fork (.alt 0 (.fork (.alt 1 (.fa 3 (.fa 4 (.quiet 5 0 .done))) (.alt 3 (.fa 1 (.fa 4 (.quiet 5 0 .done))) .stop))) (.alt 1 (.fa 0 (.fa 3 (.fa 4 (.quiet 5 0 .done)))) .stop))) .stop)))) ?_
 repeat' first|exact True.intro|refine And.intro ?_ ?_|(intro _ _)
 all_goals exact rfl
theorem Iz (h:ap) (m:Int) [Q (aj h)]:aF Tryz.prog 228 [A (aq h),I m] (RG [.a (aq (((dW h m).map fun q=>q.1).getD h)), .c (.v (.int .i64 (((dW h m).map fun q=>q.2).getD (-1)))), .c (.v (.bool (dW h m).isSome))]):=by
 refine aF.w 34 Tryz.func228 fun w g0 hM=> ?_
 have K4:=(inferInstance:cX h.ai 1048576).h
 have eW:=hM.1.2.1.map
 refine an (cF h).k ?_
 refine ah (iN h m).k ?_
 refine aB ?_ ?_ <;> intro hb
 exact (by have ho:dI h m=false:=(by simpa using hb);show _=c7 [RD.a (aq (((dW h m).map fun q=>q.1).getD h)),RD.c (.v (.int .i64 (((dW h m).map fun q=>q.2).getD (-1)))),RD.c (.v (.bool (dW h m).isSome))];rw [Xq ho,Xp,Lb,Ci ho];rfl)
 have hmo:=fN (by assumption:dI h m=true)
 have hx0:=cO (h:=h) (m:=m) (by omega)
 have hml:=(aM.1 hx0).1
 have nW:m.toNat < (h.ai.map bA).length:=by rw [aI];exact hml
 have u5:Q (bt (cK h m.toNat)):=⟨jW.h _ (aH hx0)⟩
 have qv:Q (a_ (((gh (bR (cK h m.toNat))).map Prod.fst).getD (bR (cK h m.toNat)))):=⟨MZ (gY u5.h)⟩
 first|refine dM ‹_› ?_|refine di ?_|refine bl ?_
 first|refine cJ ?_|refine aL ‹_› ?_
 refine an (ij (cK h m.toNat)).k ?_
 refine an (Ig (bR (cK h m.toNat))).k ?_
 refine kf [(2,0),(2,1),(2,2),(2,3)] (iq (mi:=m) h m.toNat _ (((gh (bR (cK h m.toNat))).map Prod.fst).getD (bR (cK h m.toNat))) (by omega) hx0) ?_
 exact (by have ho:dI h m=true:=‹_›;show _=c7 [RD.a (aq (((dW h m).map fun q=>q.1).getD h)),RD.c (.v (.int .i64 (((dW h m).map fun q=>q.2).getD (-1)))),RD.c (.v (.bool (dW h m).isSome))];rw [ack_n ho,Xp,Lb,ul ho,tK ho,show (JE (bR (cK h m.toNat))).isSome=(gh (bR (cK h m.toNat))).isSome from Option.isSome_map];rfl)
end Go.Proofs.YtdliggkohdnipaaGreat.T
