import Derived.Test.YtdliggkohdnipaaGreatQer
import Derived.Test.YtdliggkohdnipaaGreatQdr
import Derived.Test.YtdliggkohdnipaaGreatQbr
set_option linter.unusedVariables false
set_option linter.unusedSimpArgs false
namespace Go.Proofs.YtdliggkohdnipaaGreat.T
open Go
section
variable {c g m p v:Int} {h:an} {x:aO}
set_option maxRecDepth 100000
set_option maxHeartbeats 8000000
theorem XP {F:aV→Option aV} (ho:(bp h m F).isSome=true):cO h m=true∧(F (bJ (cE h m.toNat))).isSome=true:=by
 unfold bp at ho
 cases hm:cO h m with
 | false=>rw [hm] at ho;cases ho
 | true=>
  rw [hm,if_pos rfl] at ho
  refine ⟨rfl, ?_⟩
  cases e:F (bJ (cE h m.toNat)) with
  | none=>rw [e] at ho;cases ho
  | some b=>rfl
abbrev Ef (g p:Int):aV→Option aV:=fun b=>dO b g p
abbrev uZ (h:an) (m g p:Int):an:=(bp h m (Ef g p)).getD h
theorem XQ {b:aV} (hs:(dO b g p).isSome=true):0 ≤ g∧g < b.aa.length:=by
 unfold dO gJ at hs
 split at hs
 cases e:kS b.aa g with
 | none=>rw [e] at hs;cases hs
 | some x=>
  unfold kS at e
  split at e
  rename_i h0
  have:=(List.getElem?_eq_some_iff.1 e).1
  omega
  cases e
 cases hs
structure Flu (h:an) (m g p:Int) (x:aO) (k:bQ):Prop where
 hm:cO h m=true
 h0:0 ≤ m∧0 ≤ g
 sm:aj (uZ h m g p)
 hx:(uZ h m g p).ap[m.toNat]? = some x
 hk:x.Tables[g.toNat]? = some k
theorem PB (hs:aj h) (ho:(bp h m (Ef g p)).isSome=true):∃ x k,Flu h m g p x k:=by
 obtain ⟨hm,h1⟩:=XP ho
 have h2:=eY hm
 have hx:=cC h2.2
 have hg:=XQ h1
 have hmo:=dB (dU h2.1 hx)
 have O2:g < (cE h m.toNat).aa.length:=hg.2
 obtain ⟨k,hk⟩:∃ k,(cE h m.toNat).Tables[g.toNat]? = some k:=⟨_,List.getElem?_eq_getElem (by omega)⟩
 have hH:uZ h m g p=jS h m.toNat ((Ef g p (bJ (cE h m.toNat))).getD (bJ (cE h m.toNat))):=sG hm
 have BT:=hs.2.1.2 _ (List.mem_of_getElem? hx)
 refine ⟨{ cE h m.toNat with aa:=((Ef g p (bJ (cE h m.toNat))).getD (bJ (cE h m.toNat))).aa,ax:=((Ef g p (bJ (cE h m.toNat))).getD (bJ (cE h m.toNat))).ax },k,hm,⟨h2.2.1,hg.1⟩, ?_,by rw [hH];exact dz hx,hk⟩
 rw [hH]
 exact Q3 hs hx (dV (gr BT) (xu (gr BT)))
theorem xD (ho:(bp h m (Ef g p)).isSome=false):dg h m g p=none:=by
 unfold dg
 have e:bp h m (fun b=>dO b g p)=none:=by
  cases e:bp h m (fun b=>dO b g p) with
  | none=>rfl
  | some q=>rw [show bp h m (Ef g p)=some q from e] at ho;cases ho
 rw [e]
 rfl
theorem Vw (ho:(bp h m (Ef g p)).isSome=false):uZ h m g p=h:=by
 unfold uZ
 cases e:bp h m (Ef g p) with
 | none=>rfl
 | some q=>rw [e] at ho;cases ho
theorem uy {h:an} {m g p:Int} {x:aO} {k:bQ} (ho:(bp h m (Ef g p)).isSome=true) (hf:Flu h m g p x k):
  dg h m g p=some { uZ h m g p with ap:=(uZ h m g p).ap.set m.toNat (A8 x g.toNat (forget k p)),Buffer:=bM (uZ h m g p).Buffer (bZ m g) p,aC:=bM (uZ h m g p).aC (bZ m g) p }:=by
 have e:bp h m (fun b=>dO b g p)=some (uZ h m g p):=by
  show bp h m (Ef g p)=some ((bp h m (Ef g p)).getD h)
  cases e:bp h m (Ef g p) with
  | none=>rw [e] at ho;cases ho
  | some q=>rfl
 have e3:setTable (uZ h m g p) m.toNat g.toNat (forget (kept (uZ h m g p) m.toNat g.toNat) p)={ uZ h m g p with ap:=(uZ h m g p).ap.set m.toNat (A8 x g.toNat (forget k p)) }:=by
  unfold setTable fD
  rw [uv hf.hx hf.hk,kM hf.hx]
  rfl
 unfold dg
 rw [e]
 show some { setTable (uZ h m g p) m.toNat g.toNat (forget (kept (uZ h m g p) m.toNat g.toNat) p) with Buffer:=bM (setTable (uZ h m g p) m.toNat g.toNat (forget (kept (uZ h m g p) m.toNat g.toNat) p)).Buffer (bZ m g) p,aC:=bM (setTable (uZ h m g p) m.toNat g.toNat (forget (kept (uZ h m g p) m.toNat g.toNat) p)).aC (bZ m g) p }=_
 rw [e3]
theorem GG {k:bQ} (ho:(bp h m (Ef g p)).isSome=true) (hf:Flu h m g p x k):
  aq ((dg h m g p).getD h)=r7 { uZ h m g p with Buffer:=bM (uZ h m g p).Buffer (bZ m g) p,aC:=bM (uZ h m g p).aC (bZ m g) p } m.toNat x g.toNat (forget k p):=by
 rw [uy ho hf]
 exact (jX { uZ h m g p with Buffer:=bM (uZ h m g p).Buffer (bZ m g) p,aC:=bM (uZ h m g p).aC (bZ m g) p } m.toNat x g.toNat (forget k p)).symm
theorem wq (h:an) (m g p:Int) [Q (aj h)]:aF Tryz.prog 271 [A (aq h),I m, .fn 274 [.bV [.v (.int .i64 g)], .bV [.v (.int .i64 p)]]] (RG [.a (aq (uZ h m g p)), .c (.v (.bool (bp h m (Ef g p)).isSome))]):=by
 unfold uZ
 rw [← r6 (F:=Ef g p) B4]
 exact kB h m (F:=Ef g p) (.mk rfl rfl rfl) (fun b qb=>Bc b g p) (fun b hb=>dV hb (xu hb))
theorem zA {mi:Int} (h:an) (m g p:Int) [Q (aj h)] (Bj:mi=m) (hm:cO h m=true):lO Tryz.prog 344 (aq h) [.one (.agg [.ref ⟨1000000,[],0⟩, .ref ⟨1000000,[],1⟩, .ref ⟨1000000,[],2⟩, .ref ⟨1000000,[],3⟩]),I mi,A (bC ((dO (bJ (cE h m.toNat)) g p).getD (bJ (cE h m.toNat))))] (RG [.a (aq (uZ h m g p))]):=by
 have h2:=eY hm
 have hx:=cC h2.2
 have hs:=(by assumption:Q (aj h)).h.2.1.2 _ (List.mem_of_getElem? hx)
 have qv:Q (aW ((dO (bJ (cE h m.toNat)) g p).getD (bJ (cE h m.toNat)))):=⟨dV (gr hs) (xu (gr hs))⟩
 rw [show uZ h m g p=jS h m.toNat ((dO (bJ (cE h m.toNat)) g p).getD (bJ (cE h m.toNat))) from sG hm]
 exact gF h m.toNat _ _ (by omega) hx
def wu (h:an) (m p c v:Int):Bool:=dG h m p && j7 c 0 3 && j7 v 0 99
theorem Ju:(fJ h m fun b=>gX b p c v).getD h=h∧(fJ h m fun b=>gX b p c v).isSome=wu h m p c v:=by
 unfold fJ wu
 have e:dG h m p=(cO h m && j7 p 0 7):=rfl
 rw [e]
 cases hm:cO h m with
 | false=>exact ⟨rfl,rfl⟩
 | true=>
  obtain ⟨g1,g2,g3⟩:=Ea hm
  have hx:=cC (eY hm).2
  rw [if_pos rfl]
  show ((gX (ck h m) p c v).map (jS h m.toNat)).getD h=h∧((gX (ck h m) p c v).map (jS h m.toNat)).isSome=(true && j7 p 0 7 && j7 c 0 3 && j7 v 0 99)
  unfold gX
  rw [g1]
  simp only [Bool.true_and]
  split
  rename_i hc
  rw [hc]
  refine ⟨?_,rfl⟩
  show fD h m.toNat { cE h m.toNat with aa:=(ck h m).aa,ax:=(ck h m).ax }=h
  rw [g2,g3]
  unfold fD
  show { h with ap:=h.ap.set m.toNat (cE h m.toNat) }=h
  rw [oA hx]
  rename_i hc
  refine ⟨rfl, ?_⟩
  cases hq:(j7 p 0 7 && j7 c 0 3 && j7 v 0 99) with
  | true=>exact absurd hq hc
  | false=>rfl
theorem xQ (h:an) (m p c v:Int) [Q (aj h)]:aF Tryz.prog 271 [A (aq h),I m, .fn 286 [.bV [.v (.int .i64 p)], .bV [.v (.int .i64 c)], .bV [.v (.int .i64 v)]]] (RG [.a (aq h), .c (.v (.bool (wu h m p c v)))]):=by
 have h1:=r5 h m (F:=fun b=>gX b p c v) (.mk rfl rfl rfl) (fun b qb=>B9 b p c v) (fun b hb=>dV hb (XI hb))
 rw [Ju.1,Ju.2] at h1
 exact h1
theorem Jv:wu h m p c v=true ↔ dG h m p=true∧(0 ≤ c∧c ≤ 3)∧0 ≤ v∧v ≤ 99:=by
 unfold wu
 simp only [Bool.and_eq_true,decide_eq_true_eq,and_assoc]
theorem wv (ho:¬ (dG h m p=true∧(0 ≤ c∧c ≤ 3)∧0 ≤ v∧v ≤ 99)):jy h m p c v=none:=by
 unfold jy
 rw [if_neg]
 simp only [Bool.and_eq_true,decide_eq_true_eq,and_assoc]
 exact fun e=>ho (by obtain ⟨e1,e2,e3,e4,e5⟩:=e;exact ⟨e1,⟨e2,e3⟩,e4,e5⟩)
structure Pok (h:an) (m p:Int) (x:aO) (z:aL) (x2:aO) (z2:aL):Prop where
 h0:0 ≤ m∧0 ≤ p
 hs:nD h
 ha:jE h
 hx:h.ap[m.toNat]? = some x
 hz:x.ai[p.toNat]? = some z
 sH:Wd z
 NT:nD (cL h m.toNat p.toNat 2)
 tC:(cL h m.toNat p.toNat 2).ap[m.toNat]? = some x2
 YD:x2.ai[p.toNat]? = some z2
theorem Lq (hh:aj h) (hp:dG h m p=true):∃ x z x2 z2,Pok h m p x z x2 z2:=by
 have Ax:=eS.1 hp
 have hx:=cC Ax.2.1
 have hmo:=dB (dU Ax.1 hx)
 have hs:=KW Ax.1 hh
 have ha:=AI Ax.1
 obtain ⟨z,hz⟩:∃ z,(cE h m.toNat).ai[p.toNat]? = some z:=⟨_,List.getElem?_eq_getElem (by omega)⟩
 have sH:Wd z:=by
  rcases hmo.2.2.2.2.2 z (List.mem_of_getElem? hz) with rfl|h4
  exact ⟨by decide,by decide,fun _=>rfl⟩
  exact ⟨by omega,by omega,fun e=>by omega⟩
 have NT:=Np (need:=2) hs ha hx hz
 obtain ⟨x2,tC,_⟩:=B1 (need:=2) hs ha hx hz m.toNat _ hx
 have h8:=(NT.cE tC).1
 obtain ⟨z2,YD⟩:∃ z,x2.ai[p.toNat]? = some z:=⟨_,List.getElem?_eq_getElem (by omega)⟩
 exact ⟨_,z,x2,z2,⟨Ax.2.1.1,Ax.2.2.1⟩,hs,ha,hx,hz,sH,NT,tC,YD⟩
theorem B_ {z:aL} {x2:aO} {z2:aL} (ho:dG h m p=true∧(0 ≤ c∧c ≤ 3)∧0 ≤ v∧v ≤ 99) (hk:Pok h m p x z x2 z2):
  jy h m p c v=some { cL h m.toNat p.toNat 2 with au:=ec (cL h m.toNat p.toNat 2).au z2.aJ c v }:=by
 unfold jy
 rw [if_pos (by simp only [Bool.and_eq_true,decide_eq_true_eq,and_assoc];obtain ⟨e1,⟨e2,e3⟩,e4,e5⟩:=ho;exact ⟨e1,e2,e3,e4,e5⟩)]
 simp only
 rw [gL hk.tC hk.YD]
theorem Ca (h:an) (m:Int) (g:Int) (p:Int) [Q (aj h)]:aF Tryz.prog 162 [A (aq h),I m,I g,I p] (RG [.a (aq ((dg h m g p).getD h)), .c (.v (.bool (dg h m g p).isSome))]):=by
 refine aF.w 57 Tryz.func162 fun w g0 _=> ?_
 refine ak (wq h m g p).k ?_
 refine aB ?_ ?_ <;> intro hb
 obtain ⟨x,k,hfl⟩:=PB (by assumption:Q (aj h)).h (by assumption:(bp h m (Ef g p)).isSome=true)
 have qf:Q (aj (uZ h m g p)):=⟨hfl.sm⟩
 have hfx:=hfl.hx
 have hfk:=hfl.hk
 have JF:=hfl.h0
 have qx:Q (bf x):=⟨hfl.sm.2.1.2 x (List.mem_of_getElem? hfx)⟩
 have qk:Q (de k):=⟨qx.h.2.2.2.2.2.2 k (List.mem_of_getElem? hfk)⟩
 have l1:=(List.getElem?_eq_some_iff.1 hfx).1
 have l2:=(List.getElem?_eq_some_iff.1 hfk).1
 have l3:m.toNat < ((uZ h m g p).ap.map bh).length:=by rw [List.length_map];exact l1
 have l4:g.toNat < (x.Tables.map bS).length:=by rw [List.length_map];exact l2
 refine cJ [19] [(0,0),(1,0),(2,0),(3,0),(4,0),(5,0),(6,0),(7,0),(8,0),(9,0),(10,0),(11,0),(12,0),(13,0),(14,0),(15,0),(16,0),(17,1),(18,0),(19,1)] ?_
 refine aZ ?_
 refine aI (by assumption) ?_
 refine aZ ?_
 refine aI (by assumption) ?_
 refine aI (by assumption) ?_
 refine aZ ?_
 refine aI (by assumption) ?_
 refine aI (by assumption) ?_
 refine ak (sy k p).k ?_
 refine aI (by assumption) ?_
 refine aZ ?_
 refine aI (by assumption) ?_
 refine aI (by assumption) ?_
 refine cJ [8] [(0,0),(1,0),(2,0),(3,0),(5,0),(4,1),(6,1),(7,0),(8,1)] ?_
 refine ah (pR m g).k ?_
 refine bk (nY (uZ h m g p).Buffer (bZ m g) p).k ?_
 refine cJ [8] [(0,0),(1,0),(2,0),(3,0),(5,0),(4,1),(6,1),(7,0),(8,1)] ?_
 refine ah (pR m g).k ?_
 refine bk (nY (uZ h m g p).aC (bZ m g) p).k ?_
 exact (by have N8:(bp h m (Ef g p)).isSome=true:=(by assumption);show _=cR [RD.a (aq ((dg h m g p).getD h)),RD.c (.v (.bool (dg h m g p).isSome))];rw [GG N8 hfl,uy N8 hfl];rw [N8];rfl)
 exact (by have N8:(bp h m (Ef g p)).isSome=false:=(by assumption);show _=cR [RD.a (aq ((dg h m g p).getD h)),RD.c (.v (.bool (dg h m g p).isSome))];rw [xD N8,Vw N8,N8];rfl)
theorem Cb (h:an) (m:Int) (g:Int) (p:Int) [Q (aj h)]:aF Tryz.prog 220 [A (aq h),I m,I g,I p] (RG [.a (aq ((dg h m g p).getD h)), .c (.v (.bool (dg h m g p).isSome))]):=by
 refine aF.w 74 Tryz.func220 fun w g0 hM=> ?_
 have LK:=(inferInstance:dc h.ap 1048576).h
 have eK:=hM.1.2.1.map
 refine ak (ct h).k ?_
 refine ah (gq h m).k ?_
 refine aB ?_ ?_ <;> intro hb
 exact (by show _=cR [RD.a (aq ((dg h m g p).getD h)),RD.c (.v (.bool (dg h m g p).isSome))];rw [xD (by rw [A0 (by simpa using hb)];rfl)];rfl)
 have hmo:=eY (by assumption:cO h m=true)
 have hx0:=cC (h:=h) (m:=m) (by omega)
 have hml:=(List.getElem?_eq_some_iff.1 hx0).1
 have mF:m.toNat < (h.ap.map bh).length:=by rw [List.length_map];exact hml
 have sJ:Q (bf (cE h m.toNat)):=⟨j6.h _ (List.mem_of_getElem? hx0)⟩
 have hos:=rY (F:=Ef g p) (by assumption:cO h m=true)
 have qv:Q (aW ((dO (bJ (cE h m.toNat)) g p).getD (bJ (cE h m.toNat)))):=⟨dV (gr sJ.h) (xu (gr sJ.h))⟩
 refine aZ ?_
 refine aI (by assumption) ?_
 refine ak (gE (cE h m.toNat)).k ?_
 refine ak (B0 (bJ (cE h m.toNat)) g p).k ?_
 refine aB ?_ ?_ <;> intro gY
 exact (by show _=cR [RD.a (aq ((dg h m g p).getD h)),RD.c (.v (.bool (dg h m g p).isSome))];rw [xD (by rw [hos];assumption)];rfl)
 have ho2:(bp h m (Ef g p)).isSome=true:=by rw [hos];assumption
 obtain ⟨x,k,hfl⟩:=PB (by assumption:Q (aj h)).h (by assumption:(bp h m (Ef g p)).isSome=true)
 have qf:Q (aj (uZ h m g p)):=⟨hfl.sm⟩
 have hfx:=hfl.hx
 have hfk:=hfl.hk
 have JF:=hfl.h0
 have qx:Q (bf x):=⟨hfl.sm.2.1.2 x (List.mem_of_getElem? hfx)⟩
 have qk:Q (de k):=⟨qx.h.2.2.2.2.2.2 k (List.mem_of_getElem? hfk)⟩
 have l1:=(List.getElem?_eq_some_iff.1 hfx).1
 have l2:=(List.getElem?_eq_some_iff.1 hfk).1
 have l3:m.toNat < ((uZ h m g p).ap.map bh).length:=by rw [List.length_map];exact l1
 have l4:g.toNat < (x.Tables.map bS).length:=by rw [List.length_map];exact l2
 refine jr [(4,0),(4,1),(4,2),(4,3)] (zA (mi:=m) h m g p rfl (by assumption)) ?_
 refine cJ [19] [(0,0),(1,0),(2,0),(3,0),(4,0),(5,0),(6,0),(7,0),(8,0),(9,0),(10,0),(11,0),(12,0),(13,0),(14,0),(15,0),(16,0),(17,1),(18,0),(19,1)] ?_
 refine aZ ?_
 refine aI (by assumption) ?_
 refine aZ ?_
 refine aI (by assumption) ?_
 refine aI (by assumption) ?_
 refine aZ ?_
 refine aI (by assumption) ?_
 refine aI (by assumption) ?_
 refine ak (sA k p).k ?_
 refine aI (by assumption) ?_
 refine aZ ?_
 refine aI (by assumption) ?_
 refine aI (by assumption) ?_
 refine cJ [8] [(0,0),(1,0),(2,0),(3,0),(5,0),(4,1),(6,1),(7,0),(8,1)] ?_
 refine ah (pQ m g).k ?_
 refine bk (nX (uZ h m g p).Buffer (bZ m g) p).k ?_
 refine cJ [8] [(0,0),(1,0),(2,0),(3,0),(5,0),(4,1),(6,1),(7,0),(8,1)] ?_
 refine ah (pQ m g).k ?_
 refine bk (nX (uZ h m g p).aC (bZ m g) p).k ?_
 exact (by show _=cR [RD.a (aq ((dg h m g p).getD h)),RD.c (.v (.bool (dg h m g p).isSome))];rw [GG ho2 hfl,uy ho2 hfl];rfl)
theorem Dw (h:an) (m:Int) (p:Int) (c:Int) (v:Int) [Q (aj h)]:aF Tryz.prog 168 [A (aq h),I m,I p,I c,I v] (RG [.a (aq ((jy h m p c v).getD h)), .c (.v (.bool (jy h m p c v).isSome))]):=by
 refine aF.w 43 Tryz.func168 fun w g0 _=> ?_
 refine ak (xQ h m p c v).k ?_
 refine aB ?_ ?_ <;> intro hb
 have hpk:=Jv.1 (by assumption:wu h m p c v=true)
 obtain ⟨x,z,x2,z2,H6⟩:=Lq (by assumption:Q (aj h)).h hpk.1
 have OP:=H6.h0
 have qm:Q (aj (cL h m.toNat p.toNat 2)):=H6.NT.q
 have hpx:=H6.tC
 have hpz:=H6.YD
 have l1:=(List.getElem?_eq_some_iff.1 hpx).1
 have l2:=(List.getElem?_eq_some_iff.1 hpz).1
 have l3:m.toNat < ((cL h m.toNat p.toNat 2).ap.map bh).length:=by rw [List.length_map];exact l1
 have l4:p.toNat < (x2.ai.map aQ).length:=by rw [List.length_map];exact l2
 refine oI 12 (kR (mi:=m) (pi:=p) (row:=aq h) h m.toNat x p.toNat z 2 (by omega) (by omega) rfl (by decide) H6.hs H6.ha H6.hx H6.hz H6.sH) ?_
 refine cJ [16] [(0,0),(1,0),(2,0),(3,0),(4,0),(5,0),(6,0),(7,0),(8,0),(9,0),(10,0),(11,0),(12,0),(13,0),(14,1),(15,0),(16,1)] ?_
 refine aZ ?_
 refine aI (by assumption) ?_
 refine aI (by assumption) ?_
 refine aZ ?_
 refine aI (by assumption) ?_
 refine aI (by assumption) ?_
 refine bk (gS (cL h m.toNat p.toNat 2).au z2.aJ c v).k ?_
 exact (by have N8:wu h m p c v=true:=(by assumption);rw [B_ hpk H6];rw [N8];rfl)
 exact (by have N8:wu h m p c v=false:=(by assumption);rw [wv (fun e=>by rw [Jv.2 e] at N8;cases N8)];rw [N8];rfl)
theorem Dx (h:an) (m:Int) (p:Int) (c:Int) (v:Int) [Q (aj h)]:aF Tryz.prog 226 [A (aq h),I m,I p,I c,I v] (RG [.a (aq ((jy h m p c v).getD h)), .c (.v (.bool (jy h m p c v).isSome))]):=by
 refine aF.w 51 Tryz.func226 fun w g0 hM=> ?_
 have eK:=hM.1.2.1.map
 refine ak (ct h).k ?_
 refine ah (pT h m p).k ?_
 refine aB ?_ ?_ <;> intro OT
 exact (by rw [wv (by intro e;have e1:=e.1;simp_all;done)];rfl)
 refine ah (aE _ _ _).k ?_
 refine aB ?_ ?_ <;> intro Uv
 exact (by rw [wv (by intro e;omega)];rfl)
 refine ah (aE _ _ _).k ?_
 refine aB ?_ ?_ <;> intro hb
 exact (by rw [wv (by intro e;omega)];rfl)
 have hpk:=(⟨by assumption,by omega,by omega⟩:dG h m p=true∧(0 ≤ c∧c ≤ 3)∧0 ≤ v∧v ≤ 99)
 obtain ⟨x,z,x2,z2,H6⟩:=Lq (by assumption:Q (aj h)).h hpk.1
 have OP:=H6.h0
 have qm:Q (aj (cL h m.toNat p.toNat 2)):=H6.NT.q
 have hpx:=H6.tC
 have hpz:=H6.YD
 have l1:=(List.getElem?_eq_some_iff.1 hpx).1
 have l2:=(List.getElem?_eq_some_iff.1 hpz).1
 have l3:m.toNat < ((cL h m.toNat p.toNat 2).ap.map bh).length:=by rw [List.length_map];exact l1
 have l4:p.toNat < (x2.ai.map aQ).length:=by rw [List.length_map];exact l2
 refine jr [(5,0),(5,1),(5,2),(5,3)] (nu (mi:=m) (pi:=p) (row:=aq h) h m.toNat x p.toNat z 2 (by omega) (by omega) rfl (by decide) H6.hs H6.ha H6.hx H6.hz H6.sH) ?_
 refine cJ [16] [(0,0),(1,0),(2,0),(3,0),(4,0),(5,0),(6,0),(7,0),(8,0),(9,0),(10,0),(11,0),(12,0),(13,0),(14,1),(15,0),(16,1)] ?_
 refine aZ ?_
 refine aI (by assumption) ?_
 refine aI (by assumption) ?_
 refine aZ ?_
 refine aI (by assumption) ?_
 refine aI (by assumption) ?_
 refine bk (o9 (cL h m.toNat p.toNat 2).au z2.aJ c v).k ?_
 exact (by rw [B_ hpk H6];rfl)
end
section
variable {m:Int} {b:aV} {h:an}
set_option maxRecDepth 100000
set_option maxHeartbeats 8000000
abbrev H7:aV→Option aV:=fun b=>(fB b).map Prod.fst
theorem XR:Alk H7:=fun b c hb hc hg hp=>by
 show ((fB b).map Prod.fst).map _=((fB c).map Prod.fst).map _
 unfold fB
 rw [hb,hc,hp,if_pos rfl,if_pos rfl]
 cases gp c.ax with
 | none=>rfl
 | some q=>
  show some (b.aa,q.1)=some (c.aa,q.1)
  rw [hg]
theorem Lr (hb:aW b):aW ((H7 b).getD b):=by
 unfold H7 fB
 split
 cases gp b.ax with
 | none=>exact hb
 | some q=>exact hb
 exact hb
theorem XS {c:aV} (hb:dm b=true) (hc:dm c=true) (hp:b.ax=c.ax):tr b=tr c:=by
 unfold tr fB
 rw [hb,hc,hp,if_pos rfl,if_pos rfl]
 cases gp c.ax <;> rfl
theorem Jw:((dH h m).map fun q=>q.1)=bp h m H7:=by
 unfold dH bp H7
 cases cO h m with
 | false=>rfl
 | true=>
  rw [if_pos rfl,if_pos rfl]
  cases fB (bJ (cE h m.toNat)) <;> rfl
theorem Vx:(dH h m).isSome=(bp h m H7).isSome:=by
 rw [← Jw]
 cases dH h m <;> rfl
theorem YN (hm:cO h m=true):((dH h m).map fun q=>q.2).getD (-1)=tr (bJ (cE h m.toNat)):=by
 unfold dH tr
 rw [hm,if_pos rfl]
 cases fB (bJ (cE h m.toNat)) <;> rfl
theorem Vy (hm:cO h m=false):((dH h m).map fun q=>q.2).getD (-1)= -1:=by
 unfold dH
 rw [hm]
 rfl
theorem ack_ns:(bif cO h m then tr (ck h m) else -1)=((dH h m).map fun q=>q.2).getD (-1):=by
 cases hm:cO h m with
 | false=>rw [Vy hm];rfl
 | true=>
  obtain ⟨g1,g2,g3⟩:=Ea hm
  have h2:=eY hm
  rw [YN hm]
  exact XS g1 (Q6 (dU h2.1 (cC h2.2))) g3
theorem Dy (b:aV) (n:Int) [Q (aW b)]:eA Tryz.prog 291 (⟨true,[.v (.int .i64 n)]⟩) [A (bC b), .one (.ptr ⟨1000001,[],0⟩)] (RX [.v (.int .i64 (tr b))] [.a (bC ((H7 b).getD b)), .c (.v (.bool (H7 b).isSome))]):=by
 refine eA.w 17 Tryz.func291 fun w g0 _=> ?_
 refine ak (Gq b).k ?_
 exact (by refine ⟨rfl, ?_⟩;show _=cR [RD.a (bC (B3 b)),RD.c (.v (.bool ((fB b).map Prod.fst).isSome))];rw [Option.isSome_map];rfl)
theorem Cc (h:an) (m n:Int) {F:aV→Option aV} {N:aV→Int} {f:FuncId} [Q (aj h)] (hf:dK Tryz.prog f) (hF:∀ b n,Q (aW b)→eA Tryz.prog f ⟨true,[.v (.int .i64 n)]⟩ [A (bC b), .one (.ptr ⟨1000001,[],0⟩)] (RX [.v (.int .i64 (N b))] [.a (bC ((F b).getD b)), .c (.v (.bool (F b).isSome))])) (hS:∀ b,aW b→aW ((F b).getD b)):eA Tryz.prog 271 (⟨true,[.v (.int .i64 n)]⟩) [A (aq h),I m, .fn f [.ptr ⟨1000001,[],0⟩]] (RX [.v (.int .i64 (bif cO h m then N (ck h m) else n))] [.a (aq ((fJ h m F).getD h)), .c (.v (.bool (fJ h m F).isSome))]):=by
 refine eA.w 51 Tryz.func271 fun w g0 hM=> ?_
 have LK:=(inferInstance:dc h.ap 1048576).h
 have eK:=hM.1.2.1.map
 refine ak (aP h).k ?_
 refine ah (fo h).k ?_
 refine aB ?_ ?_ <;> intro gm
 exact (by rw [oV (by left;simpa using gm)];refine ⟨rfl, ?_⟩;rw [rX (by left;simpa using gm)];rfl)
 refine len ?_
 refine ah (bA _ _).k ?_
 refine aB ?_ ?_ <;> intro hb
 exact (by rw [oV (by first|(left;simpa using gm)|(right;omega))];refine ⟨rfl, ?_⟩;rw [rX (by first|(left;simpa using gm)|(right;omega))];rfl)
 refine ak (lX h m).k ?_
 refine W5 1000001 (hF (ck h m) n inferInstance) ?_ (hf:=hf)
 refine aB ?_ ?_ <;> intro gY
 have qb:Q (aW ((F (ck h m)).getD (ck h m))):=⟨hS _ (tq (by assumption:Q (aj h)).h)⟩
 have hx0:=cC (h:=h) (m:=m) (by omega)
 have hml:=(List.getElem?_eq_some_iff.1 hx0).1
 have mF:m.toNat < (h.ap.map bh).length:=by rw [List.length_map];exact hml
 have sJ:Q (bf (cE h m.toNat)):=⟨j6.h _ (List.mem_of_getElem? hx0)⟩
 refine cJ [8] [(0,0),(1,0),(2,0),(3,0),(4,0),(5,1),(6,0),(7,0),(8,1)] ?_
 refine bk (gK ((F (ck h m)).getD (ck h m)).aa).k ?_
 first|refine fN (by assumption) ?_|refine cS ?_|refine aZ ?_
 first|refine cA ?_|refine aI (by assumption) ?_
 first|refine fN (by assumption) ?_|refine cS ?_|refine aZ ?_
 refine cA ?_
 exact (by rw [rm (by simpa using gm) (by omega)];refine ⟨rfl, ?_⟩;show _=cR [RD.a (aq ((fJ h m F).getD h)),RD.c (.v (.bool (fJ h m F).isSome))];rw [AZ (by simpa using gm) (by omega) (by assumption),wm h m.toNat _ _ hx0];rfl)
 exact (by rw [rm (by simpa using gm) (by omega)];refine ⟨rfl, ?_⟩;show _=cR [RD.a (aq ((fJ h m F).getD h)),RD.c (.v (.bool (fJ h m F).isSome))];rw [xq (by assumption)];rfl)
end
set_option maxRecDepth 100000
set_option maxHeartbeats 8000000
theorem zB (h:an) (m:Int) [Q (aj h)]:eA Tryz.prog 271 ⟨true,[.v (.int .i64 (-1))]⟩ [A (aq h),I m, .fn 291 [.ptr ⟨1000001,[],0⟩]] (RX [.v (.int .i64 (((dH h m).map fun q=>q.2).getD (-1)))] [.a (aq (((dH h m).map fun q=>q.1).getD h)), .c (.v (.bool (dH h m).isSome))]):=by
 have h1:=Cc h m (-1) (F:=H7) (N:=tr) (.mk rfl rfl rfl) (fun b n qb=>Dy b n) (fun b hb=>Lr hb)
 rw [ack_ns,r6 XR, ← Jw] at h1
 rw [Vx, ← Jw]
 exact h1
theorem GH (h:an) (m:Int) [Q (aj h)]:aF Tryz.prog 170 [A (aq h),I m] (RG [.a (aq (((dH h m).map fun q=>q.1).getD h)), .c (.v (.int .i64 (((dH h m).map fun q=>q.2).getD (-1)))), .c (.v (.bool (dH h m).isSome))]):=by
 refine aF.w 20 Tryz.func170 fun w g0 _=> ?_
 refine Z3 7 (zB h m) ?_
 refine fW [0,1,2,3,4] [] [] (.fork (.alt 0 (.fork (.alt 1 (.fork (.alt 2 (.fork (.alt 3 (.fork (.alt 4 (.quiet 5 0 .done) .stop)) .stop)) (.alt 3 (.fork (.alt 2 (.fork (.alt 4 (.quiet 5 0 .done) .stop)) (.alt 4 (.fork (.alt 2 (.quiet 5 0 .done) .stop)) .stop))) .stop))) (.alt 2 (.fork (.alt 1 (.fork (.alt 3 (.fork (.alt 4 (.quiet 5 0 .done) .stop)) .stop)) (.alt 3 (.fork (.alt 1 (.fork (.alt 4 (.quiet 5 0 .done) .stop)) .stop)) .stop))) (.alt 3 (.fork (.alt 1 (.fork (.alt 2 (.fork (.alt 4 (.quiet 5 0 .done) .stop)) (.alt 4 (.fork (.alt 2 (.quiet 5 0 .done) .stop)) .stop))) (.alt 2 (.fork (.alt 1 (.fork (.alt 4 (.quiet 5 0 .done) .stop)) .stop)) .stop))) .stop)))) (.alt 1 (.fork (.alt 0 (.fork (.alt 2 (.fork (.alt 3 (.fork (.alt 4 (.quiet 5 0 .done) .stop)) .stop)) (.alt 3 (.fork (.alt 2 (.fork (.alt 4 (.quiet 5 0 .done) .stop)) (.alt 4 (.fork (.alt 2 (.quiet 5 0 .done) .stop)) .stop))) .stop))) (.alt 2 (.fork (.alt 0 (.fork (.alt 3 (.fork (.alt 4 (.quiet 5 0 .done) .stop)) .stop)) .stop)) .stop))) (.alt 2 (.fork (.alt 0 (.fork (.alt 1 (.fork (.alt 3 (.fork (.alt 4 (.quiet 5 0 .done) .stop)) .stop)) (.alt 3 (.fork (.alt 1 (.fork (.alt 4 (.quiet 5 0 .done) .stop)) .stop)) .stop))) (.alt 1 (.fork (.alt 0 (.fork (.alt 3 (.fork (.alt 4 (.quiet 5 0 .done) .stop)) .stop)) .stop)) .stop))) .stop)))) ?_
 repeat' first|exact True.intro|refine And.intro ?_ ?_|(intro _ _)
 all_goals exact rfl
theorem GI (h:an) (m:Int) [Q (aj h)]:aF Tryz.prog 228 [A (aq h),I m] (RG [.a (aq (((dH h m).map fun q=>q.1).getD h)), .c (.v (.int .i64 (((dH h m).map fun q=>q.2).getD (-1)))), .c (.v (.bool (dH h m).isSome))]):=by
 refine aF.w 34 Tryz.func228 fun w g0 hM=> ?_
 have LK:=(inferInstance:dc h.ap 1048576).h
 have eK:=hM.1.2.1.map
 refine ak (ct h).k ?_
 refine ah (gq h m).k ?_
 refine aB ?_ ?_ <;> intro hb
 exact (by have ho:cO h m=false:=(by simpa using hb);show _=cR [RD.a (aq (((dH h m).map fun q=>q.1).getD h)),RD.c (.v (.int .i64 (((dH h m).map fun q=>q.2).getD (-1)))),RD.c (.v (.bool (dH h m).isSome))];rw [Vy ho,Vx,Jw,A0 ho];rfl)
 have hmo:=eY (by assumption:cO h m=true)
 have hx0:=cC (h:=h) (m:=m) (by omega)
 have hml:=(List.getElem?_eq_some_iff.1 hx0).1
 have mF:m.toNat < (h.ap.map bh).length:=by rw [List.length_map];exact hml
 have sJ:Q (bf (cE h m.toNat)):=⟨j6.h _ (List.mem_of_getElem? hx0)⟩
 have qv:Q (aW (((fB (bJ (cE h m.toNat))).map Prod.fst).getD (bJ (cE h m.toNat)))):=⟨Lr (gr sJ.h)⟩
 first|refine fN (by assumption) ?_|refine cS ?_|refine aZ ?_
 first|refine cA ?_|refine aI (by assumption) ?_
 refine ak (gE (cE h m.toNat)).k ?_
 refine ak (Gp (bJ (cE h m.toNat))).k ?_
 refine jr [(2,0),(2,1),(2,2),(2,3)] (gF (mi:=m) h m.toNat _ (((fB (bJ (cE h m.toNat))).map Prod.fst).getD (bJ (cE h m.toNat))) (by omega) hx0) ?_
 exact (by have ho:cO h m=true:=(by assumption);show _=cR [RD.a (aq (((dH h m).map fun q=>q.1).getD h)),RD.c (.v (.int .i64 (((dH h m).map fun q=>q.2).getD (-1)))),RD.c (.v (.bool (dH h m).isSome))];rw [YN ho,Vx,Jw,sG ho,rY ho,show (H7 (bJ (cE h m.toNat))).isSome=(fB (bJ (cE h m.toNat))).isSome from Option.isSome_map];rfl)
end Go.Proofs.YtdliggkohdnipaaGreat.T
