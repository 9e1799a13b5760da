import Derived.Test.YtdliggkohdnipaaGreatQcq
import Derived.Test.YtdliggkohdnipaaGreatPfq
set_option linter.unusedVariables false
set_option linter.unusedSimpArgs false
namespace Go.Proofs.YtdliggkohdnipaaGreat.T
open Go
section
variable {m:Int} {q:Option aS} {h:ap} {x:aV}
set_option maxRecDepth 100000
set_option maxHeartbeats 8000000
def Alk (F:aS→Option aS):Prop:=∀ b c:aS,dg b=true→dg c=true→b.aa=c.aa→b.av=c.av→(F b).map (fun x=>(x.aa,x.av))=(F c).map fun x=>(x.aa,x.av)
theorem Zs {n:Nat} (h1:eu h=true) (hm:lS h m=some x) (hn:n < 8):jx (nT h m n)=true:=by
 have h4:jx [0,0,0,0]=true:=by decide
 have hx:fy x=true:=eY.1 (by simp only [eu,bh] at h1;exact h1.1.2) x (at_mem hm)
 have hmem:∀ r ∈ h.au,jx r=true:=fun r hr=>eY.1 (by simp only [eu,tg,bh] at h1;exact h1.1.1.1.1.1.1) r hr
 have hmo:=dZ hx
 unfold nT
 rw [hm]
 simp only
 rw [if_pos (by omega)]
 obtain ⟨s,hs⟩:∃ s,x.ak[n]? = some s:=⟨_,bg (by omega)⟩
 have PC:fB x.ak n=s:=by
  unfold fB m5
  rw [if_pos (by omega),Int.toNat_natCast,hs]
  rfl
 rw [PC]
 split
 unfold eZ
 cases e:m5 h.au s.aN with
 | none=>exact h4
 | some r=>exact hmem r (at_mem e)
 rename_i hp
 have hp:s.aN= -1:=by simpa using hp
 unfold eZ
 cases e:m5 x.Out n with
 | none=>exact h4
 | some r=>
  have h5:sv x n=true:=by
   simp only [fy,bh] at hx
   exact eY.1 hx.1.2 n (List.mem_range.2 hn)
  have hr:x.Out[n]? = some r:=by
   unfold m5 at e
   rw [if_pos (by omega),Int.toNat_natCast] at e
   exact e
  have hso:jb s 12=true:=by
   have:kL x.ak 8 12=true:=by simp only [fy,gP,bh] at hx;exact hx.1.1.1.1.1.2
   simp only [kL,bh] at this
   exact eY.1 this.1 s (aH hs)
  have hno:s=bE:=by
   unfold jb at hso
   simp only [Bool.or_eq_true,bh,decide_eq_true_eq] at hso
   rcases hso with hso|hso
   exact hso
   omega
  unfold sv at h5
  rw [hs,hr] at h5
  simp only [if_pos hno] at h5
  exact h5
theorem Ij (hx:fy x=true):x.aa.all bT=true∧(1 ≤ x.aa.length∧x.aa.length ≤ 2)∧x.cm.length ≤ 40∧su x.av=true:=by
 simp only [fy,gP,kj,bh,decide_eq_true_eq] at hx
 exact ⟨hx.1.1.2,by omega,by omega,by simpa only [su,decide_eq_true_eq] using hx.2.1.1.2⟩
theorem FJ (hm:dI h m=true):dg (b8 h m)=true∧(b8 h m).aa=(cK h m.toNat).aa∧(b8 h m).av=(cK h m.toNat).av:=by
 obtain ⟨h1,h2⟩:=fN hm
 have hx:=cO h2
 have ha:lS h m=some (cK h m.toNat):=by
  unfold lS m5
  rw [if_pos h2.1]
  exact hx
 have hs:b8 h m=⟨lJ h m 8,(cK h m.toNat).aa,(cK h m.toNat).cm,(cK h m.toNat).av⟩:=by
  unfold b8
  rw [ha]
 rw [hs]
 obtain ⟨g1,g2,g3,g4⟩:=Ij (eE h1 hx)
 refine ⟨?_,rfl,rfl⟩
 simp only [dg,tg,bh,decide_eq_true_eq]
 refine ⟨⟨⟨⟨g1,eY.2 fun y hy=> ?_,by rw [oc];rfl⟩,by omega⟩,by omega⟩,by simpa only [su,decide_eq_true_eq] using g4⟩
 obtain ⟨k,hk,rfl⟩:=j7.1 hy
 exact Zs h1 ha (List.mem_range.1 hk)
theorem SG (hx:fy x=true):dg (bR x)=true:=by
 obtain ⟨g1,g2,g3,g4⟩:=Ij hx
 have e:tg (jc 8) 8=true:=by decide
 have g5:decide (x.cm.length ≤ 40)=true:=decide_eq_true g3
 have g6:jX (x.aa.length:Int) 1 2=true:=decide_eq_true (by omega)
 show (x.aa.all bT && tg (jc 8) 8 && jX (x.aa.length:Int) 1 2 && decide (x.cm.length ≤ 40) && su x.av)=true
 rw [g1,e,g6,g5,g4]
 rfl
theorem O9 {m:Nat}:q.map (kO h m)=(q.map fun x=>(x.aa,x.av)).map fun p=>fT h m { cK h m with aa:=p.1,av:=p.2 }:=by
 cases q <;> rfl
theorem tN {F:aS→Option aS} (hF:Alk F):gw h m F=bC h m F:=by
 unfold gw bC
 cases hm:dI h m with
 | false=>rfl
 | true=>
  obtain ⟨h1,h2⟩:=fN hm
  obtain ⟨g1,g2,g3⟩:=FJ hm
  rw [if_pos rfl,if_pos rfl,O9,O9,hF _ (bR (cK h m.toNat)) g1 (SG (eE h1 (cO h2))) g2 g3]
theorem Dp {g:Int} {f:ax→Option ax}:Alk fun b=>iu b g f:=fun b c hb hc hg hp=>by
 unfold iu
 simp only
 rw [hb,hc,if_pos rfl,if_pos rfl,hg]
 cases m5 c.aa g with
 | none=>rfl
 | some x=>
  show ((f x).map (b_ b g)).map _=((f x).map (b_ c g)).map _
  cases f x with
  | none=>rfl
  | some y=>
   show some ((b_ b g y).aa,(b_ b g y).av)=some ((b_ c g y).aa,(b_ c g y).av)
   unfold b_
   simp only
   rw [hg,hp]
theorem Xf {n:Int}:Alk fun b=>cL b n:=fun b c hb hc hg hp=>by
 unfold cL
 simp only
 rw [hb,hc,hg,hp]
 split
 simp only [Option.map]
 split
 simp only [hg,hp]
 simp only [hg,hp]
 rfl
theorem eG {b:aS} (hb:a_ b) (h:∀ c,q=some c→a_ c):a_ (q.getD b):=by
 cases e:q with
 | none=>exact hb
 | some c=>exact h c e
theorem iq {mi:Int} (h:ap) (m:Nat) (x:aV) (b:aS) [Q (aj h)] [Q (a_ b)] (CA:mi=m) (hx:h.ai[m]? = some x):ng Tryz.prog 344 (aq h) [.one (.agg [.ref ⟨1000000,[],0⟩, .ref ⟨1000000,[],1⟩, .ref ⟨1000000,[],2⟩, .ref ⟨1000000,[],3⟩]),I mi,A (bH b)] (RG [.a (aq (kO h m b))]):=by
 subst CA
 exact Ic h m x b hx
theorem EN (b:aS) (g:Int) (p:Int) (s:aQ) [Q (a_ b)]:aF Tryz.prog 272 [A (bH b), .one (.b9 [.v (.int .i64 g)]), .one (.b9 [.v (.int .i64 p)]), .one (.b9 (iF s))] (RG [.a (bH ((eN b g p s).getD b)), .c (.v (.bool (eN b g p s).isSome))]):=by
 refine aF.w 14 Tryz.func272 fun w g0 _=> ?_
 refine an (HX b g p s).k ?_
 exact rfl
theorem Ik (h:ap) (m:Int) (g:Int) (p:Int) (s:aQ) [Q (aj h)]:aF Tryz.prog 161 [A (aq h),I m,I g,I p,A (iF s)] (RG [.a (aq ((bC h m fun b=>eN b g p s).getD h)), .c (.v (.bool (bC h m fun b=>eN b g p s).isSome))]):=by
 refine aF.w 18 Tryz.func161 fun w g0 _=> ?_
 refine an (tM h m (F:=fun b=>eN b g p s) (.mk rfl rfl rfl) (fun b qb=>EN b g p s) (fun b hb=>eG hb (MQ hb))).k ?_
 exact (by show _=c7 [RD.a (aq ((bC h m fun b=>eN b g p s).getD h)),RD.c (.v (.bool (bC h m fun b=>eN b g p s).isSome))];rw [← tN (F:=fun b=>eN b g p s) Dp];rfl)
theorem Il (h:ap) (m:Int) (g:Int) (p:Int) (s:aQ) [Q (aj h)]:aF Tryz.prog 219 [A (aq h),I m,I g,I p,A (iF s)] (RG [.a (aq ((bC h m fun b=>eN b g p s).getD h)), .c (.v (.bool (bC h m fun b=>eN b g p s).isSome))]):=by
 refine aF.w 39 Tryz.func219 fun w g0 hM=> ?_
 have K4:=(inferInstance:cX h.ai 1048576).h
 have eW:=hM.1.2.1.map
 refine an (cF h).k ?_
 refine ah (iN h m).k ?_
 refine aB ?_ ?_ <;> intro hb
 ·exact (by show _=c7 [RD.a (aq ((bC h m fun b=>eN b g p s).getD h)),RD.c (.v (.bool (bC h m fun b=>eN b g p s).isSome))];rw [Ci (by simpa using hb)];rfl)
 ·have hmo:=fN (by assumption:dI h m=true)
  have hx0:=cO (h:=h) (m:=m) (by omega)
  have hml:=(aM.1 hx0).1
  have nW:m.toNat < (h.ai.map bA).length:=by rw [aI];exact hml
  have u5:Q (bt (cK h m.toNat)):=⟨jW.h _ (aH hx0)⟩
  have qv:Q (a_ ((eN (bR (cK h m.toNat)) g p s).getD (bR (cK h m.toNat)))):=⟨eG (gY u5.h) (MQ (gY u5.h))⟩
  refine gp [11,12,14] [] [] (.quiet 0 0 (.quiet 1 0 (.quiet 2 0 (.quiet 3 0 (.quiet 4 0 (.quiet 6 0 (.quiet 7 0 (.quiet 8 0 (.fork (.alt 5 (.fork (.alt 9 (.quiet 10 0 (.fork (.alt 11 (.fork (.alt 12 (.fa 13 (.fa 14 (.quiet 15 0 .done))) (.alt 13 (.fork (.alt 12 (.fa 14 (.quiet 15 0 .done)) (.alt 14 (.fa 12 (.quiet 15 0 .done)) .stop))) .stop))) (.alt 12 (.fork (.alt 11 (.fa 13 (.fa 14 (.quiet 15 0 .done))) (.alt 13 (.fa 11 (.fa 14 (.quiet 15 0 .done))) .stop))) (.alt 13 (.fork (.alt 11 (.fork (.alt 12 (.fa 14 (.quiet 15 0 .done)) (.alt 14 (.fa 12 (.quiet 15 0 .done)) .stop))) (.alt 12 (.fa 11 (.fa 14 (.quiet 15 0 .done))) .stop))) .stop))))) (.alt 13 (.fa 9 (.quiet 10 0 (.fork (.alt 11 (.fork (.alt 12 (.fa 14 (.quiet 15 0 .done)) (.alt 14 (.fa 12 (.quiet 15 0 .done)) .stop))) (.alt 12 (.fa 11 (.fa 14 (.quiet 15 0 .done))) .stop))))) .stop))) (.alt 13 (.fa 5 (.fa 9 (.quiet 10 0 (.fork (.alt 11 (.fork (.alt 12 (.fa 14 (.quiet 15 0 .done)) (.alt 14 (.fa 12 (.quiet 15 0 .done)) .stop))) (.alt 12 (.fa 11 (.fa 14 (.quiet 15 0 .done))) .stop)))))) .stop))))))))))) ?_
  repeat' first|exact True.intro|refine And.intro ?_ ?_|(intro _ _)|refine bl ?_|refine aL ‹_› ?_|refine an (ij (cK h m.toNat)).k ?_|refine an (HZ (bR (cK h m.toNat)) g p s).k ?_
  all_goals (
   refine kf [(5,0),(5,1),(5,2),(5,3)] (iq (mi:=m) h m.toNat _ ((eN (bR (cK h m.toNat)) g p s).getD (bR (cK h m.toNat))) (by omega) hx0) ?_
   exact (by show _=c7 [RD.a (aq ((bC h m fun b=>eN b g p s).getD h)),RD.c (.v (.bool (bC h m fun b=>eN b g p s).isSome))];rw [ul ‹_›,tK ‹_›];rfl))
theorem A5 (b:aS) (g:Int) (v:Int) [Q (a_ b)]:aF Tryz.prog 278 [A (bH b), .one (.b9 [.v (.int .i64 g)]), .one (.b9 [.v (.int .i64 v)])] (RG [.a (bH ((cr b g v).getD b)), .c (.v (.bool (cr b g v).isSome))]):=by
 refine aF.w 12 Tryz.func278 fun w g0 _=> ?_
 refine an (B_ b g v).k ?_
 exact rfl
theorem Ck (h:ap) (m:Int) (g:Int) (v:Int) [Q (aj h)]:aF Tryz.prog 163 [A (aq h),I m,I g,I v] (RG [.a (aq ((bC h m fun b=>cr b g v).getD h)), .c (.v (.bool (bC h m fun b=>cr b g v).isSome))]):=by
 refine aF.w 16 Tryz.func163 fun w g0 _=> ?_
 refine an (lM h m (F:=fun b=>cr b g v) (.mk rfl rfl rfl) (fun b qb=>A5 b g v) (fun b hb=>eG hb (zb hb))).k ?_
 exact (by show _=c7 [RD.a (aq ((bC h m fun b=>cr b g v).getD h)),RD.c (.v (.bool (bC h m fun b=>cr b g v).isSome))];rw [← tN (F:=fun b=>cr b g v) Dp];rfl)
theorem Cl (h:ap) (m:Int) (g:Int) (v:Int) [Q (aj h)]:aF Tryz.prog 221 [A (aq h),I m,I g,I v] (RG [.a (aq ((bC h m fun b=>cr b g v).getD h)), .c (.v (.bool (bC h m fun b=>cr b g v).isSome))]):=by
 refine aF.w 36 Tryz.func221 fun w g0 hM=> ?_
 have K4:=(inferInstance:cX h.ai 1048576).h
 have eW:=hM.1.2.1.map
 refine an (cF h).k ?_
 refine ah (iN h m).k ?_
 refine aB ?_ ?_ <;> intro hb
 exact (by show _=c7 [RD.a (aq ((bC h m fun b=>cr b g v).getD h)),RD.c (.v (.bool (bC h m fun b=>cr b g v).isSome))];rw [Ci (by simpa using hb)];rfl)
 have hmo:=fN (by assumption:dI h m=true)
 have hx0:=cO (h:=h) (m:=m) (by omega)
 have hml:=(aM.1 hx0).1
 have nW:m.toNat < (h.ai.map bA).length:=by rw [aI];exact hml
 have u5:Q (bt (cK h m.toNat)):=⟨jW.h _ (aH hx0)⟩
 have qv:Q (a_ ((cr (bR (cK h m.toNat)) g v).getD (bR (cK h m.toNat)))):=⟨eG (gY u5.h) (zb (gY u5.h))⟩
 refine bl ?_
 refine aL ‹_› ?_
 refine an (ij (cK h m.toNat)).k ?_
 refine an (Cc (bR (cK h m.toNat)) g v).k ?_
 refine kf [(4,0),(4,1),(4,2),(4,3)] (iq (mi:=m) h m.toNat _ ((cr (bR (cK h m.toNat)) g v).getD (bR (cK h m.toNat))) (by omega) hx0) ?_
 exact (by show _=c7 [RD.a (aq ((bC h m fun b=>cr b g v).getD h)),RD.c (.v (.bool (bC h m fun b=>cr b g v).isSome))];rw [ul ‹_›,tK ‹_›];rfl)
theorem A6 (b:aS) (g:Int) [Q (a_ b)]:aF Tryz.prog 280 [A (bH b), .one (.b9 [.v (.int .i64 g)])] (RG [.a (bH ((ct b g).getD b)), .c (.v (.bool (ct b g).isSome))]):=by
 refine aF.w 10 Tryz.func280 fun w g0 _=> ?_
 refine an (Ca b g).k ?_
 exact rfl
theorem Cm (h:ap) (m:Int) (g:Int) [Q (aj h)]:aF Tryz.prog 164 [A (aq h),I m,I g] (RG [.a (aq ((bC h m fun b=>ct b g).getD h)), .c (.v (.bool (bC h m fun b=>ct b g).isSome))]):=by
 refine aF.w 14 Tryz.func164 fun w g0 _=> ?_
 refine an (tL h m (F:=fun b=>ct b g) (.mk rfl rfl rfl) (fun b qb=>A6 b g) (fun b hb=>eG hb (zc hb))).k ?_
 exact (by show _=c7 [RD.a (aq ((bC h m fun b=>ct b g).getD h)),RD.c (.v (.bool (bC h m fun b=>ct b g).isSome))];rw [← tN (F:=fun b=>ct b g) Dp];rfl)
theorem Cn (h:ap) (m:Int) (g:Int) [Q (aj h)]:aF Tryz.prog 222 [A (aq h),I m,I g] (RG [.a (aq ((bC h m fun b=>ct b g).getD h)), .c (.v (.bool (bC h m fun b=>ct b g).isSome))]):=by
 refine aF.w 33 Tryz.func222 fun w g0 hM=> ?_
 have K4:=(inferInstance:cX h.ai 1048576).h
 have eW:=hM.1.2.1.map
 refine an (cF h).k ?_
 refine ah (iN h m).k ?_
 refine aB ?_ ?_ <;> intro hb
 exact (by show _=c7 [RD.a (aq ((bC h m fun b=>ct b g).getD h)),RD.c (.v (.bool (bC h m fun b=>ct b g).isSome))];rw [Ci (by simpa using hb)];rfl)
 have hmo:=fN (by assumption:dI h m=true)
 have hx0:=cO (h:=h) (m:=m) (by omega)
 have hml:=(aM.1 hx0).1
 have nW:m.toNat < (h.ai.map bA).length:=by rw [aI];exact hml
 have u5:Q (bt (cK h m.toNat)):=⟨jW.h _ (aH hx0)⟩
 have qv:Q (a_ ((ct (bR (cK h m.toNat)) g).getD (bR (cK h m.toNat)))):=⟨eG (gY u5.h) (zc (gY u5.h))⟩
 refine bl ?_
 refine aL ‹_› ?_
 refine an (ij (cK h m.toNat)).k ?_
 refine an (Cd (bR (cK h m.toNat)) g).k ?_
 refine kf [(3,0),(3,1),(3,2),(3,3)] (iq (mi:=m) h m.toNat _ ((ct (bR (cK h m.toNat)) g).getD (bR (cK h m.toNat))) (by omega) hx0) ?_
 exact (by show _=c7 [RD.a (aq ((bC h m fun b=>ct b g).getD h)),RD.c (.v (.bool (bC h m fun b=>ct b g).isSome))];rw [ul ‹_›,tK ‹_›];rfl)
theorem A7 (b:aS) (g:Int) (n:Int) [Q (a_ b)]:aF Tryz.prog 282 [A (bH b), .one (.b9 [.v (.int .i64 g)]), .one (.b9 [.v (.int .i64 n)])] (RG [.a (bH ((b7 b g n).getD b)), .c (.v (.bool (b7 b g n).isSome))]):=by
 refine aF.w 12 Tryz.func282 fun w g0 _=> ?_
 refine an (Cb b g n).k ?_
 exact rfl
theorem Co (h:ap) (m:Int) (g:Int) (n:Int) [Q (aj h)]:aF Tryz.prog 165 [A (aq h),I m,I g,I n] (RG [.a (aq ((bC h m fun b=>b7 b g n).getD h)), .c (.v (.bool (bC h m fun b=>b7 b g n).isSome))]):=by
 refine aF.w 16 Tryz.func165 fun w g0 _=> ?_
 refine an (lM h m (F:=fun b=>b7 b g n) (.mk rfl rfl rfl) (fun b qb=>A7 b g n) (fun b hb=>eG hb (ze hb))).k ?_
 exact (by show _=c7 [RD.a (aq ((bC h m fun b=>b7 b g n).getD h)),RD.c (.v (.bool (bC h m fun b=>b7 b g n).isSome))];rw [← tN (F:=fun b=>b7 b g n) Dp];rfl)
theorem Cp (h:ap) (m:Int) (g:Int) (n:Int) [Q (aj h)]:aF Tryz.prog 223 [A (aq h),I m,I g,I n] (RG [.a (aq ((bC h m fun b=>b7 b g n).getD h)), .c (.v (.bool (bC h m fun b=>b7 b g n).isSome))]):=by
 refine aF.w 36 Tryz.func223 fun w g0 hM=> ?_
 have K4:=(inferInstance:cX h.ai 1048576).h
 have eW:=hM.1.2.1.map
 refine an (cF h).k ?_
 refine ah (iN h m).k ?_
 refine aB ?_ ?_ <;> intro hb
 exact (by show _=c7 [RD.a (aq ((bC h m fun b=>b7 b g n).getD h)),RD.c (.v (.bool (bC h m fun b=>b7 b g n).isSome))];rw [Ci (by simpa using hb)];rfl)
 have hmo:=fN (by assumption:dI h m=true)
 have hx0:=cO (h:=h) (m:=m) (by omega)
 have hml:=(aM.1 hx0).1
 have nW:m.toNat < (h.ai.map bA).length:=by rw [aI];exact hml
 have u5:Q (bt (cK h m.toNat)):=⟨jW.h _ (aH hx0)⟩
 have qv:Q (a_ ((b7 (bR (cK h m.toNat)) g n).getD (bR (cK h m.toNat)))):=⟨eG (gY u5.h) (ze (gY u5.h))⟩
 refine bl ?_
 refine aL ‹_› ?_
 refine an (ij (cK h m.toNat)).k ?_
 refine an (Ce (bR (cK h m.toNat)) g n).k ?_
 refine kf [(4,0),(4,1),(4,2),(4,3)] (iq (mi:=m) h m.toNat _ ((b7 (bR (cK h m.toNat)) g n).getD (bR (cK h m.toNat))) (by omega) hx0) ?_
 exact (by show _=c7 [RD.a (aq ((bC h m fun b=>b7 b g n).getD h)),RD.c (.v (.bool (bC h m fun b=>b7 b g n).isSome))];rw [ul ‹_›,tK ‹_›];rfl)
theorem EO (b:aS) (g:Int) (c:qY) [Q (a_ b)]:aF Tryz.prog 284 [A (bH b), .one (.b9 [.v (.int .i64 g)]), .one (.b9 (zA c))] (RG [.a (bH ((eO b g c).getD b)), .c (.v (.bool (eO b g c).isSome))]):=by
 refine aF.w 12 Tryz.func284 fun w g0 _=> ?_
 refine an (HY b g c).k ?_
 exact rfl
theorem Im (h:ap) (m:Int) (g:Int) (c:qY) [Q (aj h)]:aF Tryz.prog 166 [A (aq h),I m,I g,A (zA c)] (RG [.a (aq ((bC h m fun b=>eO b g c).getD h)), .c (.v (.bool (bC h m fun b=>eO b g c).isSome))]):=by
 refine aF.w 16 Tryz.func166 fun w g0 _=> ?_
 refine an (lM h m (F:=fun b=>eO b g c) (.mk rfl rfl rfl) (fun b qb=>EO b g c) (fun b hb=>eG hb (MR hb))).k ?_
 exact (by show _=c7 [RD.a (aq ((bC h m fun b=>eO b g c).getD h)),RD.c (.v (.bool (bC h m fun b=>eO b g c).isSome))];rw [← tN (F:=fun b=>eO b g c) Dp];rfl)
theorem Io (h:ap) (m:Int) (g:Int) (c:qY) [Q (aj h)]:aF Tryz.prog 224 [A (aq h),I m,I g,A (zA c)] (RG [.a (aq ((bC h m fun b=>eO b g c).getD h)), .c (.v (.bool (bC h m fun b=>eO b g c).isSome))]):=by
 refine aF.w 36 Tryz.func224 fun w g0 hM=> ?_
 have K4:=(inferInstance:cX h.ai 1048576).h
 have eW:=hM.1.2.1.map
 refine an (cF h).k ?_
 refine ah (iN h m).k ?_
 refine aB ?_ ?_ <;> intro hb
 ·exact (by show _=c7 [RD.a (aq ((bC h m fun b=>eO b g c).getD h)),RD.c (.v (.bool (bC h m fun b=>eO b g c).isSome))];rw [Ci (by simpa using hb)];rfl)
 ·have hmo:=fN (by assumption:dI h m=true)
  have hx0:=cO (h:=h) (m:=m) (by omega)
  have hml:=(aM.1 hx0).1
  have nW:m.toNat < (h.ai.map bA).length:=by rw [aI];exact hml
  have u5:Q (bt (cK h m.toNat)):=⟨jW.h _ (aH hx0)⟩
  have qv:Q (a_ ((eO (bR (cK h m.toNat)) g c).getD (bR (cK h m.toNat)))):=⟨eG (gY u5.h) (MR (gY u5.h))⟩
  refine gp [10,11,13] [] [] (.quiet 0 0 (.quiet 1 0 (.quiet 2 0 (.quiet 3 0 (.quiet 4 0 (.quiet 6 0 (.quiet 7 0 (.fork (.alt 5 (.fork (.alt 8 (.quiet 9 0 (.fork (.alt 10 (.fork (.alt 11 (.fa 12 (.fa 13 (.quiet 14 0 .done))) (.alt 12 (.fork (.alt 11 (.fa 13 (.quiet 14 0 .done)) (.alt 13 (.fa 11 (.quiet 14 0 .done)) .stop))) .stop))) (.alt 11 (.fork (.alt 10 (.fa 12 (.fa 13 (.quiet 14 0 .done))) (.alt 12 (.fa 10 (.fa 13 (.quiet 14 0 .done))) .stop))) (.alt 12 (.fork (.alt 10 (.fork (.alt 11 (.fa 13 (.quiet 14 0 .done)) (.alt 13 (.fa 11 (.quiet 14 0 .done)) .stop))) (.alt 11 (.fa 10 (.fa 13 (.quiet 14 0 .done))) .stop))) .stop))))) (.alt 12 (.fa 8 (.quiet 9 0 (.fork (.alt 10 (.fork (.alt 11 (.fa 13 (.quiet 14 0 .done)) (.alt 13 (.fa 11 (.quiet 14 0 .done)) .stop))) (.alt 11 (.fa 10 (.fa 13 (.quiet 14 0 .done))) .stop))))) .stop))) (.alt 12 (.fa 5 (.fa 8 (.quiet 9 0 (.fork (.alt 10 (.fork (.alt 11 (.fa 13 (.quiet 14 0 .done)) (.alt 13 (.fa 11 (.quiet 14 0 .done)) .stop))) (.alt 11 (.fa 10 (.fa 13 (.quiet 14 0 .done))) .stop)))))) .stop)))))))))) ?_
  repeat' first|exact True.intro|refine And.intro ?_ ?_|(intro _ _)|refine bl ?_|refine aL ‹_› ?_|refine an (ij (cK h m.toNat)).k ?_|refine an (H6 (bR (cK h m.toNat)) g c).k ?_
  all_goals (
   refine kf [(4,0),(4,1),(4,2),(4,3)] (iq (mi:=m) h m.toNat _ ((eO (bR (cK h m.toNat)) g c).getD (bR (cK h m.toNat))) (by omega) hx0) ?_
   exact (by show _=c7 [RD.a (aq ((bC h m fun b=>eO b g c).getD h)),RD.c (.v (.bool (bC h m fun b=>eO b g c).isSome))];rw [ul ‹_›,tK ‹_›];rfl))
theorem Dq (b:aS) (n:Int) [Q (a_ b)]:aF Tryz.prog 289 [A (bH b), .one (.b9 [.v (.int .i64 n)])] (RG [.a (bH ((cL b n).getD b)), .c (.v (.bool (cL b n).isSome))]):=by
 refine aF.w 10 Tryz.func289 fun w g0 _=> ?_
 refine an (EM b n).k ?_
 exact rfl
theorem EP (h:ap) (m:Int) (n:Int) [Q (aj h)]:aF Tryz.prog 169 [A (aq h),I m,I n] (RG [.a (aq ((bC h m fun b=>cL b n).getD h)), .c (.v (.bool (bC h m fun b=>cL b n).isSome))]):=by
 refine aF.w 14 Tryz.func169 fun w g0 _=> ?_
 refine an (tL h m (F:=fun b=>cL b n) (.mk rfl rfl rfl) (fun b qb=>Dq b n) (fun b hb=>eG hb (FI hb))).k ?_
 exact (by show _=c7 [RD.a (aq ((bC h m fun b=>cL b n).getD h)),RD.c (.v (.bool (bC h m fun b=>cL b n).isSome))];rw [← tN (F:=fun b=>cL b n) Xf];rfl)
theorem EQ (h:ap) (m:Int) (n:Int) [Q (aj h)]:aF Tryz.prog 227 [A (aq h),I m,I n] (RG [.a (aq ((bC h m fun b=>cL b n).getD h)), .c (.v (.bool (bC h m fun b=>cL b n).isSome))]):=by
 refine aF.w 33 Tryz.func227 fun w g0 hM=> ?_
 have K4:=(inferInstance:cX h.ai 1048576).h
 have eW:=hM.1.2.1.map
 refine an (cF h).k ?_
 refine ah (iN h m).k ?_
 refine aB ?_ ?_ <;> intro hb
 exact (by show _=c7 [RD.a (aq ((bC h m fun b=>cL b n).getD h)),RD.c (.v (.bool (bC h m fun b=>cL b n).isSome))];rw [Ci (by simpa using hb)];rfl)
 have hmo:=fN (by assumption:dI h m=true)
 have hx0:=cO (h:=h) (m:=m) (by omega)
 have hml:=(aM.1 hx0).1
 have nW:m.toNat < (h.ai.map bA).length:=by rw [aI];exact hml
 have u5:Q (bt (cK h m.toNat)):=⟨jW.h _ (aH hx0)⟩
 have qv:Q (a_ ((cL (bR (cK h m.toNat)) n).getD (bR (cK h m.toNat)))):=⟨eG (gY u5.h) (FI (gY u5.h))⟩
 refine bl ?_
 refine aL ‹_› ?_
 refine an (ij (cK h m.toNat)).k ?_
 refine an (EL (bR (cK h m.toNat)) n).k ?_
 refine kf [(3,0),(3,1),(3,2),(3,3)] (iq (mi:=m) h m.toNat _ ((cL (bR (cK h m.toNat)) n).getD (bR (cK h m.toNat))) (by omega) hx0) ?_
 exact (by show _=c7 [RD.a (aq ((bC h m fun b=>cL b n).getD h)),RD.c (.v (.bool (bC h m fun b=>cL b n).isSome))];rw [ul ‹_›,tK ‹_›];rfl)
end
end Go.Proofs.YtdliggkohdnipaaGreat.T
