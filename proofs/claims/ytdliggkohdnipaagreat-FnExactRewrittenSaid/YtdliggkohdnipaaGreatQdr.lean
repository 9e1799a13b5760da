import Derived.Test.YtdliggkohdnipaaGreatPcr
import Derived.Test.YtdliggkohdnipaaGreatPfr
set_option linter.unusedVariables false
set_option linter.unusedSimpArgs false
namespace Go.Proofs.YtdliggkohdnipaaGreat.T
open Go
section
variable {m:Int} {q:Option aV} {h:an} {x:aO}
set_option maxRecDepth 100000
set_option maxHeartbeats 8000000
def Alk (F:aV→Option aV):Prop:=∀ b c:aV,dm b=true→dm c=true→b.aa=c.aa→b.ax=c.ax→(F b).map (fun x=>(x.aa,x.ax))=(F c).map fun x=>(x.aa,x.ax)
theorem XJ {n:Nat} (h1:dL h=true) (hm:je h m=some x) (hn:n < 8):iM (m9 h m n)=true:=by
 have h4:iM [0,0,0,0]=true:=by decide
 have hx:eO x=true:=List.all_eq_true.1 (by simp only [dL,Bool.and_eq_true] at h1;exact h1.1.2) x (at_mem hm)
 have hmem:∀ r ∈ h.au,iM r=true:=fun r hr=>List.all_eq_true.1 (by simp only [dL,rL,Bool.and_eq_true] at h1;exact h1.1.1.1.1.1.1) r hr
 have hmo:=dB hx
 unfold m9
 rw [hm]
 simp only
 rw [if_pos (by omega)]
 obtain ⟨s,hs⟩:∃ s,x.ai[n]? = some s:=⟨_,List.getElem?_eq_getElem (by omega)⟩
 have N0:eP x.ai n=s:=by
  unfold eP kS
  rw [if_pos (by omega),Int.toNat_natCast,hs]
  rfl
 rw [N0]
 split
 unfold eo
 cases e:kS h.au s.aJ with
 | none=>exact h4
 | some r=>exact hmem r (at_mem e)
 rename_i hp
 have hp:s.aJ= -1:=by simpa using hp
 unfold eo
 cases e:kS x.Out n with
 | none=>exact h4
 | some r=>
  have h5:qL x n=true:=by
   simp only [eO,Bool.and_eq_true] at hx
   exact List.all_eq_true.1 hx.1.2 n (List.mem_range.2 hn)
  have hr:x.Out[n]? = some r:=by
   unfold kS at e
   rw [if_pos (by omega),Int.toNat_natCast] at e
   exact e
  have hso:iw s 12=true:=by
   have:jP x.ai 8 12=true:=by simp only [eO,ga,Bool.and_eq_true] at hx;exact hx.1.1.1.1.1.2
   simp only [jP,Bool.and_eq_true] at this
   exact List.all_eq_true.1 this.1 s (List.mem_of_getElem? hs)
  have hno:s=bu:=by
   unfold iw at hso
   simp only [Bool.or_eq_true,Bool.and_eq_true,decide_eq_true_eq] at hso
   rcases hso with hso|hso
   exact hso
   omega
  unfold qL at h5
  rw [hs,hr] at h5
  simp only [if_pos hno] at h5
  exact h5
theorem Gs (hx:eO x=true):x.aa.all bL=true∧(1 ≤ x.aa.length∧x.aa.length ≤ 2)∧x.bX.length ≤ 40∧qK x.ax=true:=by
 simp only [eO,ga,jv,Bool.and_eq_true,decide_eq_true_eq] at hx
 exact ⟨hx.1.1.2,by omega,by omega,by simpa only [qK,decide_eq_true_eq] using hx.2.1.1.2⟩
theorem Ea (hm:cO h m=true):dm (ck h m)=true∧(ck h m).aa=(cE h m.toNat).aa∧(ck h m).ax=(cE h m.toNat).ax:=by
 obtain ⟨h1,h2⟩:=eY hm
 have hx:=cC h2
 have ha:je h m=some (cE h m.toNat):=by
  unfold je kS
  rw [if_pos h2.1]
  exact hx
 have hs:ck h m=⟨l9 h m 8,(cE h m.toNat).aa,(cE h m.toNat).bX,(cE h m.toNat).ax⟩:=by
  unfold ck
  rw [ha]
 rw [hs]
 obtain ⟨g1,g2,g3,g4⟩:=Gs (dU h1 hx)
 refine ⟨?_,rfl,rfl⟩
 simp only [dm,rL,Bool.and_eq_true,decide_eq_true_eq]
 refine ⟨⟨⟨⟨g1,List.all_eq_true.2 fun y hy=> ?_,by rw [rW];rfl⟩,by omega⟩,by omega⟩,by simpa only [qK,decide_eq_true_eq] using g4⟩
 obtain ⟨k,hk,rfl⟩:=List.mem_map.1 hy
 exact XJ h1 ha (List.mem_range.1 hk)
theorem Q6 (hx:eO x=true):dm (bJ x)=true:=by
 obtain ⟨g1,g2,g3,g4⟩:=Gs hx
 have e:rL (BH 8) 8=true:=by decide
 have g5:decide (x.bX.length ≤ 40)=true:=decide_eq_true g3
 have g6:j7 (x.aa.length:Int) 1 2=true:=decide_eq_true (by omega)
 show (x.aa.all bL && rL (BH 8) 8 && j7 (x.aa.length:Int) 1 2 && decide (x.bX.length ≤ 40) && qK x.ax)=true
 rw [g1,e,g6,g5,g4]
 rfl
theorem Nz {m:Nat}:q.map (jS h m)=(q.map fun x=>(x.aa,x.ax)).map fun p=>fD h m { cE h m with aa:=p.1,ax:=p.2 }:=by
 cases q <;> rfl
theorem r6 {F:aV→Option aV} (hF:Alk F):fJ h m F=bp h m F:=by
 unfold fJ bp
 cases hm:cO h m with
 | false=>rfl
 | true=>
  obtain ⟨h1,h2⟩:=eY hm
  obtain ⟨g1,g2,g3⟩:=Ea hm
  rw [if_pos rfl,if_pos rfl,Nz,Nz,hF _ (bJ (cE h m.toNat)) g1 (Q6 (dU h1 (cC h2))) g2 g3]
theorem B4 {g:Int} {f:av→Option av}:Alk fun b=>gJ b g f:=fun b c hb hc hg hp=>by
 unfold gJ
 simp only
 rw [hb,hc,if_pos rfl,if_pos rfl,hg]
 cases kS c.aa g with
 | none=>rfl
 | some x=>
  show ((f x).map (bW b g)).map _=((f x).map (bW c g)).map _
  cases f x with
  | none=>rfl
  | some y=>
   show some ((bW b g y).aa,(bW b g y).ax)=some ((bW c g y).aa,(bW c g y).ax)
   unfold bW
   simp only
   rw [hg,hp]
theorem Vo {n:Int}:Alk fun b=>cF b n:=fun b c hb hc hg hp=>by
 unfold cF
 simp only
 rw [hb,hc,hg,hp]
 split
 simp only [Option.map]
 split
 simp only [hg,hp]
 simp only [hg,hp]
 rfl
theorem dV {b:aV} (hb:aW b) (h:∀ c,q=some c→aW c):aW (q.getD b):=by
 cases e:q with
 | none=>exact hb
 | some c=>exact h c e
theorem gF {mi:Int} (h:an) (m:Nat) (x:aO) (b:aV) [Q (aj h)] [Q (aW b)] (Bj:mi=m) (hx:h.ap[m]? = some x):lO Tryz.prog 344 (aq h) [.one (.agg [.ref ⟨1000000,[],0⟩, .ref ⟨1000000,[],1⟩, .ref ⟨1000000,[],2⟩, .ref ⟨1000000,[],3⟩]),I mi,A (bC b)] (RG [.a (aq (jS h m b))]):=by
 subst Bj
 exact Gm h m x b hx
theorem Dm (b:aV) (g:Int) (p:Int) (s:aL) [Q (aW b)]:aF Tryz.prog 272 [A (bC b), .one (.bV [.v (.int .i64 g)]), .one (.bV [.v (.int .i64 p)]), .one (.bV (gB s))] (RG [.a (bC ((d_ b g p s).getD b)), .c (.v (.bool (d_ b g p s).isSome))]):=by
 refine aF.w 14 Tryz.func272 fun w g0 _=> ?_
 refine ak (Gd b g p s).k ?_
 exact rfl
theorem Gt (h:an) (m:Int) (g:Int) (p:Int) (s:aL) [Q (aj h)]:aF Tryz.prog 161 [A (aq h),I m,I g,I p,A (gB s)] (RG [.a (aq ((bp h m fun b=>d_ b g p s).getD h)), .c (.v (.bool (bp h m fun b=>d_ b g p s).isSome))]):=by
 refine aF.w 18 Tryz.func161 fun w g0 _=> ?_
 refine ak (r5 h m (F:=fun b=>d_ b g p s) (.mk rfl rfl rfl) (fun b qb=>Dm b g p s) (fun b hb=>dV hb (Li hb))).k ?_
 exact (by show _=cR [RD.a (aq ((bp h m fun b=>d_ b g p s).getD h)),RD.c (.v (.bool (bp h m fun b=>d_ b g p s).isSome))];rw [← r6 (F:=fun b=>d_ b g p s) B4];rfl)
theorem Gu (h:an) (m:Int) (g:Int) (p:Int) (s:aL) [Q (aj h)]:aF Tryz.prog 219 [A (aq h),I m,I g,I p,A (gB s)] (RG [.a (aq ((bp h m fun b=>d_ b g p s).getD h)), .c (.v (.bool (bp h m fun b=>d_ b g p s).isSome))]):=by
 refine aF.w 39 Tryz.func219 fun w g0 hM=> ?_
 have LK:=(inferInstance:dc h.ap 1048576).h
 have eK:=hM.1.2.1.map
 refine ak (ct h).k ?_
 refine ah (gq h m).k ?_
 refine aB ?_ ?_ <;> intro hb
 ·exact (by show _=cR [RD.a (aq ((bp h m fun b=>d_ b g p s).getD h)),RD.c (.v (.bool (bp h m fun b=>d_ b g p s).isSome))];rw [A0 (by simpa using hb)];rfl)
 ·have hmo:=eY (by assumption:cO h m=true)
  have hx0:=cC (h:=h) (m:=m) (by omega)
  have hml:=(List.getElem?_eq_some_iff.1 hx0).1
  have mF:m.toNat < (h.ap.map bh).length:=by rw [List.length_map];exact hml
  have sJ:Q (bf (cE h m.toNat)):=⟨j6.h _ (List.mem_of_getElem? hx0)⟩
  have qv:Q (aW ((d_ (bJ (cE h m.toNat)) g p s).getD (bJ (cE h m.toNat)))):=⟨dV (gr sJ.h) (Li (gr sJ.h))⟩
  refine fW [11,12,14] [] [] (.quiet 0 0 (.quiet 1 0 (.quiet 2 0 (.quiet 3 0 (.quiet 4 0 (.quiet 6 0 (.quiet 7 0 (.quiet 8 0 (.fork (.alt 5 (.fork (.alt 9 (.quiet 10 0 (.fork (.alt 11 (.fork (.alt 12 (.fork (.alt 13 (.fork (.alt 14 (.quiet 15 0 .done) .stop)) .stop)) (.alt 13 (.fork (.alt 12 (.fork (.alt 14 (.quiet 15 0 .done) .stop)) (.alt 14 (.fork (.alt 12 (.quiet 15 0 .done) .stop)) .stop))) .stop))) (.alt 12 (.fork (.alt 11 (.fork (.alt 13 (.fork (.alt 14 (.quiet 15 0 .done) .stop)) .stop)) (.alt 13 (.fork (.alt 11 (.fork (.alt 14 (.quiet 15 0 .done) .stop)) .stop)) .stop))) (.alt 13 (.fork (.alt 11 (.fork (.alt 12 (.fork (.alt 14 (.quiet 15 0 .done) .stop)) (.alt 14 (.fork (.alt 12 (.quiet 15 0 .done) .stop)) .stop))) (.alt 12 (.fork (.alt 11 (.fork (.alt 14 (.quiet 15 0 .done) .stop)) .stop)) .stop))) .stop))))) (.alt 13 (.fork (.alt 9 (.quiet 10 0 (.fork (.alt 11 (.fork (.alt 12 (.fork (.alt 14 (.quiet 15 0 .done) .stop)) (.alt 14 (.fork (.alt 12 (.quiet 15 0 .done) .stop)) .stop))) (.alt 12 (.fork (.alt 11 (.fork (.alt 14 (.quiet 15 0 .done) .stop)) .stop)) .stop)))) .stop)) .stop))) (.alt 13 (.fork (.alt 5 (.fork (.alt 9 (.quiet 10 0 (.fork (.alt 11 (.fork (.alt 12 (.fork (.alt 14 (.quiet 15 0 .done) .stop)) (.alt 14 (.fork (.alt 12 (.quiet 15 0 .done) .stop)) .stop))) (.alt 12 (.fork (.alt 11 (.fork (.alt 14 (.quiet 15 0 .done) .stop)) .stop)) .stop)))) .stop)) .stop)) .stop))))))))))) ?_
  repeat' first|exact True.intro|refine And.intro ?_ ?_|(intro _ _)|refine aZ ?_|refine aI (by assumption) ?_|refine ak (gE (cE h m.toNat)).k ?_|refine ak (Gf (bJ (cE h m.toNat)) g p s).k ?_
  all_goals (
   refine jr [(5,0),(5,1),(5,2),(5,3)] (gF (mi:=m) h m.toNat _ ((d_ (bJ (cE h m.toNat)) g p s).getD (bJ (cE h m.toNat))) (by omega) hx0) ?_
   exact (by show _=cR [RD.a (aq ((bp h m fun b=>d_ b g p s).getD h)),RD.c (.v (.bool (bp h m fun b=>d_ b g p s).isSome))];rw [sG (by assumption),rY (by assumption)];rfl))
theorem zu (b:aV) (g:Int) (v:Int) [Q (aW b)]:aF Tryz.prog 278 [A (bC b), .one (.bV [.v (.int .i64 g)]), .one (.bV [.v (.int .i64 v)])] (RG [.a (bC ((b_ b g v).getD b)), .c (.v (.bool (b_ b g v).isSome))]):=by
 refine aF.w 12 Tryz.func278 fun w g0 _=> ?_
 refine ak (AR b g v).k ?_
 exact rfl
theorem A2 (h:an) (m:Int) (g:Int) (v:Int) [Q (aj h)]:aF Tryz.prog 163 [A (aq h),I m,I g,I v] (RG [.a (aq ((bp h m fun b=>b_ b g v).getD h)), .c (.v (.bool (bp h m fun b=>b_ b g v).isSome))]):=by
 refine aF.w 16 Tryz.func163 fun w g0 _=> ?_
 refine ak (kB h m (F:=fun b=>b_ b g v) (.mk rfl rfl rfl) (fun b qb=>zu b g v) (fun b hb=>dV hb (xw hb))).k ?_
 exact (by show _=cR [RD.a (aq ((bp h m fun b=>b_ b g v).getD h)),RD.c (.v (.bool (bp h m fun b=>b_ b g v).isSome))];rw [← r6 (F:=fun b=>b_ b g v) B4];rfl)
theorem A3 (h:an) (m:Int) (g:Int) (v:Int) [Q (aj h)]:aF Tryz.prog 221 [A (aq h),I m,I g,I v] (RG [.a (aq ((bp h m fun b=>b_ b g v).getD h)), .c (.v (.bool (bp h m fun b=>b_ b g v).isSome))]):=by
 refine aF.w 36 Tryz.func221 fun w g0 hM=> ?_
 have LK:=(inferInstance:dc h.ap 1048576).h
 have eK:=hM.1.2.1.map
 refine ak (ct h).k ?_
 refine ah (gq h m).k ?_
 refine aB ?_ ?_ <;> intro hb
 exact (by show _=cR [RD.a (aq ((bp h m fun b=>b_ b g v).getD h)),RD.c (.v (.bool (bp h m fun b=>b_ b g v).isSome))];rw [A0 (by simpa using hb)];rfl)
 have hmo:=eY (by assumption:cO h m=true)
 have hx0:=cC (h:=h) (m:=m) (by omega)
 have hml:=(List.getElem?_eq_some_iff.1 hx0).1
 have mF:m.toNat < (h.ap.map bh).length:=by rw [List.length_map];exact hml
 have sJ:Q (bf (cE h m.toNat)):=⟨j6.h _ (List.mem_of_getElem? hx0)⟩
 have qv:Q (aW ((b_ (bJ (cE h m.toNat)) g v).getD (bJ (cE h m.toNat)))):=⟨dV (gr sJ.h) (xw (gr sJ.h))⟩
 refine aZ ?_
 refine aI (by assumption) ?_
 refine ak (gE (cE h m.toNat)).k ?_
 refine ak (AU (bJ (cE h m.toNat)) g v).k ?_
 refine jr [(4,0),(4,1),(4,2),(4,3)] (gF (mi:=m) h m.toNat _ ((b_ (bJ (cE h m.toNat)) g v).getD (bJ (cE h m.toNat))) (by omega) hx0) ?_
 exact (by show _=cR [RD.a (aq ((bp h m fun b=>b_ b g v).getD h)),RD.c (.v (.bool (bp h m fun b=>b_ b g v).isSome))];rw [sG (by assumption),rY (by assumption)];rfl)
theorem zw (b:aV) (g:Int) [Q (aW b)]:aF Tryz.prog 280 [A (bC b), .one (.bV [.v (.int .i64 g)])] (RG [.a (bC ((cg b g).getD b)), .c (.v (.bool (cg b g).isSome))]):=by
 refine aF.w 10 Tryz.func280 fun w g0 _=> ?_
 refine ak (AS b g).k ?_
 exact rfl
theorem A4 (h:an) (m:Int) (g:Int) [Q (aj h)]:aF Tryz.prog 164 [A (aq h),I m,I g] (RG [.a (aq ((bp h m fun b=>cg b g).getD h)), .c (.v (.bool (bp h m fun b=>cg b g).isSome))]):=by
 refine aF.w 14 Tryz.func164 fun w g0 _=> ?_
 refine ak (rZ h m (F:=fun b=>cg b g) (.mk rfl rfl rfl) (fun b qb=>zw b g) (fun b hb=>dV hb (xx hb))).k ?_
 exact (by show _=cR [RD.a (aq ((bp h m fun b=>cg b g).getD h)),RD.c (.v (.bool (bp h m fun b=>cg b g).isSome))];rw [← r6 (F:=fun b=>cg b g) B4];rfl)
theorem A5 (h:an) (m:Int) (g:Int) [Q (aj h)]:aF Tryz.prog 222 [A (aq h),I m,I g] (RG [.a (aq ((bp h m fun b=>cg b g).getD h)), .c (.v (.bool (bp h m fun b=>cg b g).isSome))]):=by
 refine aF.w 33 Tryz.func222 fun w g0 hM=> ?_
 have LK:=(inferInstance:dc h.ap 1048576).h
 have eK:=hM.1.2.1.map
 refine ak (ct h).k ?_
 refine ah (gq h m).k ?_
 refine aB ?_ ?_ <;> intro hb
 exact (by show _=cR [RD.a (aq ((bp h m fun b=>cg b g).getD h)),RD.c (.v (.bool (bp h m fun b=>cg b g).isSome))];rw [A0 (by simpa using hb)];rfl)
 have hmo:=eY (by assumption:cO h m=true)
 have hx0:=cC (h:=h) (m:=m) (by omega)
 have hml:=(List.getElem?_eq_some_iff.1 hx0).1
 have mF:m.toNat < (h.ap.map bh).length:=by rw [List.length_map];exact hml
 have sJ:Q (bf (cE h m.toNat)):=⟨j6.h _ (List.mem_of_getElem? hx0)⟩
 have qv:Q (aW ((cg (bJ (cE h m.toNat)) g).getD (bJ (cE h m.toNat)))):=⟨dV (gr sJ.h) (xx (gr sJ.h))⟩
 refine aZ ?_
 refine aI (by assumption) ?_
 refine ak (gE (cE h m.toNat)).k ?_
 refine ak (AV (bJ (cE h m.toNat)) g).k ?_
 refine jr [(3,0),(3,1),(3,2),(3,3)] (gF (mi:=m) h m.toNat _ ((cg (bJ (cE h m.toNat)) g).getD (bJ (cE h m.toNat))) (by omega) hx0) ?_
 exact (by show _=cR [RD.a (aq ((bp h m fun b=>cg b g).getD h)),RD.c (.v (.bool (bp h m fun b=>cg b g).isSome))];rw [sG (by assumption),rY (by assumption)];rfl)
theorem zx (b:aV) (g:Int) (n:Int) [Q (aW b)]:aF Tryz.prog 282 [A (bC b), .one (.bV [.v (.int .i64 g)]), .one (.bV [.v (.int .i64 n)])] (RG [.a (bC ((bU b g n).getD b)), .c (.v (.bool (bU b g n).isSome))]):=by
 refine aF.w 12 Tryz.func282 fun w g0 _=> ?_
 refine ak (AT b g n).k ?_
 exact rfl
theorem A6 (h:an) (m:Int) (g:Int) (n:Int) [Q (aj h)]:aF Tryz.prog 165 [A (aq h),I m,I g,I n] (RG [.a (aq ((bp h m fun b=>bU b g n).getD h)), .c (.v (.bool (bp h m fun b=>bU b g n).isSome))]):=by
 refine aF.w 16 Tryz.func165 fun w g0 _=> ?_
 refine ak (kB h m (F:=fun b=>bU b g n) (.mk rfl rfl rfl) (fun b qb=>zx b g n) (fun b hb=>dV hb (xy hb))).k ?_
 exact (by show _=cR [RD.a (aq ((bp h m fun b=>bU b g n).getD h)),RD.c (.v (.bool (bp h m fun b=>bU b g n).isSome))];rw [← r6 (F:=fun b=>bU b g n) B4];rfl)
theorem A7 (h:an) (m:Int) (g:Int) (n:Int) [Q (aj h)]:aF Tryz.prog 223 [A (aq h),I m,I g,I n] (RG [.a (aq ((bp h m fun b=>bU b g n).getD h)), .c (.v (.bool (bp h m fun b=>bU b g n).isSome))]):=by
 refine aF.w 36 Tryz.func223 fun w g0 hM=> ?_
 have LK:=(inferInstance:dc h.ap 1048576).h
 have eK:=hM.1.2.1.map
 refine ak (ct h).k ?_
 refine ah (gq h m).k ?_
 refine aB ?_ ?_ <;> intro hb
 exact (by show _=cR [RD.a (aq ((bp h m fun b=>bU b g n).getD h)),RD.c (.v (.bool (bp h m fun b=>bU b g n).isSome))];rw [A0 (by simpa using hb)];rfl)
 have hmo:=eY (by assumption:cO h m=true)
 have hx0:=cC (h:=h) (m:=m) (by omega)
 have hml:=(List.getElem?_eq_some_iff.1 hx0).1
 have mF:m.toNat < (h.ap.map bh).length:=by rw [List.length_map];exact hml
 have sJ:Q (bf (cE h m.toNat)):=⟨j6.h _ (List.mem_of_getElem? hx0)⟩
 have qv:Q (aW ((bU (bJ (cE h m.toNat)) g n).getD (bJ (cE h m.toNat)))):=⟨dV (gr sJ.h) (xy (gr sJ.h))⟩
 refine aZ ?_
 refine aI (by assumption) ?_
 refine ak (gE (cE h m.toNat)).k ?_
 refine ak (AW (bJ (cE h m.toNat)) g n).k ?_
 refine jr [(4,0),(4,1),(4,2),(4,3)] (gF (mi:=m) h m.toNat _ ((bU (bJ (cE h m.toNat)) g n).getD (bJ (cE h m.toNat))) (by omega) hx0) ?_
 exact (by show _=cR [RD.a (aq ((bp h m fun b=>bU b g n).getD h)),RD.c (.v (.bool (bp h m fun b=>bU b g n).isSome))];rw [sG (by assumption),rY (by assumption)];rfl)
theorem Dn (b:aV) (g:Int) (c:mA) [Q (aW b)]:aF Tryz.prog 284 [A (bC b), .one (.bV [.v (.int .i64 g)]), .one (.bV (s0 c))] (RG [.a (bC ((ea b g c).getD b)), .c (.v (.bool (ea b g c).isSome))]):=by
 refine aF.w 12 Tryz.func284 fun w g0 _=> ?_
 refine ak (Ge b g c).k ?_
 exact rfl
theorem Gv (h:an) (m:Int) (g:Int) (c:mA) [Q (aj h)]:aF Tryz.prog 166 [A (aq h),I m,I g,A (s0 c)] (RG [.a (aq ((bp h m fun b=>ea b g c).getD h)), .c (.v (.bool (bp h m fun b=>ea b g c).isSome))]):=by
 refine aF.w 16 Tryz.func166 fun w g0 _=> ?_
 refine ak (kB h m (F:=fun b=>ea b g c) (.mk rfl rfl rfl) (fun b qb=>Dn b g c) (fun b hb=>dV hb (Lj hb))).k ?_
 exact (by show _=cR [RD.a (aq ((bp h m fun b=>ea b g c).getD h)),RD.c (.v (.bool (bp h m fun b=>ea b g c).isSome))];rw [← r6 (F:=fun b=>ea b g c) B4];rfl)
theorem Gw (h:an) (m:Int) (g:Int) (c:mA) [Q (aj h)]:aF Tryz.prog 224 [A (aq h),I m,I g,A (s0 c)] (RG [.a (aq ((bp h m fun b=>ea b g c).getD h)), .c (.v (.bool (bp h m fun b=>ea b g c).isSome))]):=by
 refine aF.w 36 Tryz.func224 fun w g0 hM=> ?_
 have LK:=(inferInstance:dc h.ap 1048576).h
 have eK:=hM.1.2.1.map
 refine ak (ct h).k ?_
 refine ah (gq h m).k ?_
 refine aB ?_ ?_ <;> intro hb
 ·exact (by show _=cR [RD.a (aq ((bp h m fun b=>ea b g c).getD h)),RD.c (.v (.bool (bp h m fun b=>ea b g c).isSome))];rw [A0 (by simpa using hb)];rfl)
 ·have hmo:=eY (by assumption:cO h m=true)
  have hx0:=cC (h:=h) (m:=m) (by omega)
  have hml:=(List.getElem?_eq_some_iff.1 hx0).1
  have mF:m.toNat < (h.ap.map bh).length:=by rw [List.length_map];exact hml
  have sJ:Q (bf (cE h m.toNat)):=⟨j6.h _ (List.mem_of_getElem? hx0)⟩
  have qv:Q (aW ((ea (bJ (cE h m.toNat)) g c).getD (bJ (cE h m.toNat)))):=⟨dV (gr sJ.h) (Lj (gr sJ.h))⟩
  refine fW [10,11,13] [] [] (.quiet 0 0 (.quiet 1 0 (.quiet 2 0 (.quiet 3 0 (.quiet 4 0 (.quiet 6 0 (.quiet 7 0 (.fork (.alt 5 (.fork (.alt 8 (.quiet 9 0 (.fork (.alt 10 (.fork (.alt 11 (.fork (.alt 12 (.fork (.alt 13 (.quiet 14 0 .done) .stop)) .stop)) (.alt 12 (.fork (.alt 11 (.fork (.alt 13 (.quiet 14 0 .done) .stop)) (.alt 13 (.fork (.alt 11 (.quiet 14 0 .done) .stop)) .stop))) .stop))) (.alt 11 (.fork (.alt 10 (.fork (.alt 12 (.fork (.alt 13 (.quiet 14 0 .done) .stop)) .stop)) (.alt 12 (.fork (.alt 10 (.fork (.alt 13 (.quiet 14 0 .done) .stop)) .stop)) .stop))) (.alt 12 (.fork (.alt 10 (.fork (.alt 11 (.fork (.alt 13 (.quiet 14 0 .done) .stop)) (.alt 13 (.fork (.alt 11 (.quiet 14 0 .done) .stop)) .stop))) (.alt 11 (.fork (.alt 10 (.fork (.alt 13 (.quiet 14 0 .done) .stop)) .stop)) .stop))) .stop))))) (.alt 12 (.fork (.alt 8 (.quiet 9 0 (.fork (.alt 10 (.fork (.alt 11 (.fork (.alt 13 (.quiet 14 0 .done) .stop)) (.alt 13 (.fork (.alt 11 (.quiet 14 0 .done) .stop)) .stop))) (.alt 11 (.fork (.alt 10 (.fork (.alt 13 (.quiet 14 0 .done) .stop)) .stop)) .stop)))) .stop)) .stop))) (.alt 12 (.fork (.alt 5 (.fork (.alt 8 (.quiet 9 0 (.fork (.alt 10 (.fork (.alt 11 (.fork (.alt 13 (.quiet 14 0 .done) .stop)) (.alt 13 (.fork (.alt 11 (.quiet 14 0 .done) .stop)) .stop))) (.alt 11 (.fork (.alt 10 (.fork (.alt 13 (.quiet 14 0 .done) .stop)) .stop)) .stop)))) .stop)) .stop)) .stop)))))))))) ?_
  repeat' first|exact True.intro|refine And.intro ?_ ?_|(intro _ _)|refine aZ ?_|refine aI (by assumption) ?_|refine ak (gE (cE h m.toNat)).k ?_|refine ak (Gg (bJ (cE h m.toNat)) g c).k ?_
  all_goals (
   refine jr [(4,0),(4,1),(4,2),(4,3)] (gF (mi:=m) h m.toNat _ ((ea (bJ (cE h m.toNat)) g c).getD (bJ (cE h m.toNat))) (by omega) hx0) ?_
   exact (by show _=cR [RD.a (aq ((bp h m fun b=>ea b g c).getD h)),RD.c (.v (.bool (bp h m fun b=>ea b g c).isSome))];rw [sG (by assumption),rY (by assumption)];rfl))
theorem B5 (b:aV) (n:Int) [Q (aW b)]:aF Tryz.prog 289 [A (bC b), .one (.bV [.v (.int .i64 n)])] (RG [.a (bC ((cF b n).getD b)), .c (.v (.bool (cF b n).isSome))]):=by
 refine aF.w 10 Tryz.func289 fun w g0 _=> ?_
 refine ak (Dl b n).k ?_
 exact rfl
theorem Dp (h:an) (m:Int) (n:Int) [Q (aj h)]:aF Tryz.prog 169 [A (aq h),I m,I n] (RG [.a (aq ((bp h m fun b=>cF b n).getD h)), .c (.v (.bool (bp h m fun b=>cF b n).isSome))]):=by
 refine aF.w 14 Tryz.func169 fun w g0 _=> ?_
 refine ak (rZ h m (F:=fun b=>cF b n) (.mk rfl rfl rfl) (fun b qb=>B5 b n) (fun b hb=>dV hb (D_ hb))).k ?_
 exact (by show _=cR [RD.a (aq ((bp h m fun b=>cF b n).getD h)),RD.c (.v (.bool (bp h m fun b=>cF b n).isSome))];rw [← r6 (F:=fun b=>cF b n) Vo];rfl)
theorem Dq (h:an) (m:Int) (n:Int) [Q (aj h)]:aF Tryz.prog 227 [A (aq h),I m,I n] (RG [.a (aq ((bp h m fun b=>cF b n).getD h)), .c (.v (.bool (bp h m fun b=>cF b n).isSome))]):=by
 refine aF.w 33 Tryz.func227 fun w g0 hM=> ?_
 have LK:=(inferInstance:dc h.ap 1048576).h
 have eK:=hM.1.2.1.map
 refine ak (ct h).k ?_
 refine ah (gq h m).k ?_
 refine aB ?_ ?_ <;> intro hb
 exact (by show _=cR [RD.a (aq ((bp h m fun b=>cF b n).getD h)),RD.c (.v (.bool (bp h m fun b=>cF b n).isSome))];rw [A0 (by simpa using hb)];rfl)
 have hmo:=eY (by assumption:cO h m=true)
 have hx0:=cC (h:=h) (m:=m) (by omega)
 have hml:=(List.getElem?_eq_some_iff.1 hx0).1
 have mF:m.toNat < (h.ap.map bh).length:=by rw [List.length_map];exact hml
 have sJ:Q (bf (cE h m.toNat)):=⟨j6.h _ (List.mem_of_getElem? hx0)⟩
 have qv:Q (aW ((cF (bJ (cE h m.toNat)) n).getD (bJ (cE h m.toNat)))):=⟨dV (gr sJ.h) (D_ (gr sJ.h))⟩
 refine aZ ?_
 refine aI (by assumption) ?_
 refine ak (gE (cE h m.toNat)).k ?_
 refine ak (Dk (bJ (cE h m.toNat)) n).k ?_
 refine jr [(3,0),(3,1),(3,2),(3,3)] (gF (mi:=m) h m.toNat _ ((cF (bJ (cE h m.toNat)) n).getD (bJ (cE h m.toNat))) (by omega) hx0) ?_
 exact (by show _=cR [RD.a (aq ((bp h m fun b=>cF b n).getD h)),RD.c (.v (.bool (bp h m fun b=>cF b n).isSome))];rw [sG (by assumption),rY (by assumption)];rfl)
end
end Go.Proofs.YtdliggkohdnipaaGreat.T
