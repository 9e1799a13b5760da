import Derived.Test.YtdliggkohdnipaaGreatRvr
set_option linter.unusedVariables false
set_option linter.unusedSimpArgs false
namespace Go.Proofs.YtdliggkohdnipaaGreat.T
open Go
section
variable {io:Bool} {g m need p ag q:Int} {o:Option aL} {y:av} {h:an} {k:bQ} {x:aO}
set_option maxRecDepth 100000
set_option maxHeartbeats 8000000
theorem kR {row:List D} {mi pi:Int} (h:an) (m:Nat) (x:aO) (p:Nat) (z:aL) (need:Int) (Bj:mi=m) (Fy:pi=p) (hr:row=aq h) (hn:0 ≤ need∧need ≤ 3) (hs:nD h) (ha:jE h) (hx:h.ap[m]? = some x) (hz:x.ai[p]? = some z) (sH:Wd z):
  eA Tryz.prog 288 ⟨true,row⟩ [.one (.ptr ⟨1000001,[],0⟩),I mi,I pi,I need] (zF (aq (cL h m p need)) (.lp [])):=by
 subst hr Bj Fy
 exact Nq h m x p z need hn hs ha hx hz sH
abbrev hD (h:an) (m q need:Int):an:=n6 h m.toNat q.toNat need
abbrev hF (h:an) (m g ag q need:Int):an:=filled (hD h m q need) m.toNat g.toNat ag q.toNat need
abbrev sF (h:an) (m g ag q need:Int):aL:=(ask (kept (hF h m g ag q need) m.toNat g.toNat) ag).getD bu
abbrev eF (h:an) (m g ag q need:Int):bt:=⟨bZ m g,ag,(sF h m g ag q need).aJ,(sF h m g ag q need).aT⟩
theorem xz (hx:h.ap[m.toNat]? = some x) (hn:need=2):ur h m.toNat x q.toNat=aq (hD h m q need):=by
 unfold hD n6
 rw [if_pos hn,wh hx]
 exact iB h m.toNat x q.toNat
theorem xA (hn:¬ need=2):aq h=aq (hD h m q need):=by
 unfold hD n6
 rw [if_neg hn]
theorem wo (hh:(cK (oK h io) (bZ m g) ag).isSome=false ∨ fi ((cK (oK h io) (bZ m g) ag).getD MG).aT need=false):nt h io m g ag need=none:=by
 unfold nt
 cases e:cK (oK h io) (bZ m g) ag with
 | none=>rfl
 | some s=>
  rw [e] at hh
  rcases hh with hh|hh
  cases hh
  show Option.filter _ (some s)=none
  rw [Option.filter_some,if_neg]
  have hh:fi s.aT need=false:=hh
  rw [hh]
  decide
theorem XK (h1:(cK (oK h io) (bZ m g) ag).isSome=true) (h2:fi ((cK (oK h io) (bZ m g) ag).getD MG).aT need=true):nt h io m g ag need=some ((cK (oK h io) (bZ m g) ag).getD MG):=by
 unfold nt
 cases e:cK (oK h io) (bZ m g) ag with
 | none=>rw [e] at h1;cases h1
 | some s=>
  rw [e] at h2
  have h2:fi s.aT need=true:=h2
  show Option.filter _ (some s)=some s
  rw [Option.filter_some,if_pos h2]
theorem NA (h1:dL h=true) (h2:(je h m).isSome=true) (h3:0 ≤ g∧g < (dx h m).aa.length):cG h m g=true:=by
 have h4:0 ≤ m:=by
  unfold je kS at h2
  split at h2
  assumption
  cases h2
 have h5:m.toNat < h.ap.length:=by
  unfold je kS at h2
  rw [if_pos h4] at h2
  cases hh:h.ap[m.toNat]? with
  | none=>rw [hh] at h2;cases h2
  | some x=>exact (List.getElem?_eq_some_iff.1 hh).1
 rw [Gi h4] at h3
 exact bO.2 ⟨h1,⟨h4,by omega⟩,h3⟩
theorem Gx {p:Prop} (h1:dL h=false):¬ (cG h m g=true∧p):=fun e=>by rw [(bO.1 e.1).1] at h1;cases h1
theorem Pv {p:Prop} (h1:(je h m).isSome=false):¬ (cG h m g=true∧p):=fun e=>by
 have h2:=(bO.1 e.1).2.1
 unfold je kS at h1
 rw [if_pos h2.1,cC h2] at h1
 cases h1
theorem Pw {p:Prop} (h1:¬ (0 ≤ g∧g < (dx h m).aa.length)):¬ (cG h m g=true∧p):=fun e=>by
 have h2:=(bO.1 e.1).2
 rw [Gi h2.1.1] at h1
 exact h1 h2.2
theorem xB {t:List aL} {n:Int} (h:(bn t p n).isSome=true):bn t p n=some ((bn t p n).getD (-1)):=by
 cases e:bn t p n with
 | none=>rw [e] at h;cases h
 | some q=>rfl
theorem Eb (hn:cG h m g=true∧(need=1 ∨ need=2)) (hy:c9 h m.toNat g.toNat=y) (hq:(bn y.Live ag need).isSome=false):find h m g ag need io=none:=by
 rw [uw hn,hy]
 cases e:bn y.Live ag need with
 | none=>rfl
 | some q=>rw [e] at hq;cases hq
theorem Ec (hn:cG h m g=true∧(need=1 ∨ need=2)) (hq:bn (c9 h m.toNat g.toNat).Live ag need=some q) (h1:(cK (oK (hD h m q need) io) (bZ m g) ag).isSome=true) (h2:fi ((cK (oK (hD h m q need) io) (bZ m g) ag).getD MG).aT need=true):
  find h m g ag need io=some (hD h m q need,((cK (oK (hD h m q need) io) (bZ m g) ag).getD MG).Host):=by
 have h3:=bO.1 hn.1
 rw [uw hn,hq]
 show some (x_ _ _ _ _ _ _ _)=_
 rw [B2 h3.2.1.1 h3.2.2.1 (XK h1 h2)]
theorem tt (hn:cG h m g=true∧(need=1 ∨ need=2)) (hq:bn (c9 h m.toNat g.toNat).Live ag need=some q) (h1:nt (hD h m q need) io m g ag need=none):
  find h m g ag need io=some (o7 (hF h m g ag q need) io (gC (oK (hF h m g ag q need) io) (eF h m g ag q need)),(sF h m g ag q need).aJ):=by
 have h3:=bO.1 hn.1
 rw [uw hn,hq]
 show some (x_ _ _ _ _ _ _ _)=_
 rw [Po h3.2.1.1 h3.2.2.1 h1 rfl rfl]
 rfl
theorem tu (h1:o.isSome=true) (h2:¬ (o.getD bu).aJ= -1) (h3:fi (o.getD bu).aT need=true):lets o need=true:=by
 cases o with
 | none=>cases h1
 | some s=>
  have h2:s.aJ ≠ -1:=h2
  show (decide (s.aJ ≠ -1) && fi s.aT need)=true
  rw [decide_eq_true h2]
  exact h3
theorem iE (h:o.isSome=false ∨ (o.getD bu).aJ= -1 ∨ fi (o.getD bu).aT need=false):lets o need=false:=by
 cases o with
 | none=>rfl
 | some s=>
  show (decide (s.aJ ≠ -1) && fi s.aT need)=false
  rcases h with h|h|h
  cases h
  have h:s.aJ= -1:=h
  rw [decide_eq_false (by simp [h])]
  rfl
  have h:fi s.aT need=false:=h
  rw [h,Bool.and_false]
def A8 (x:aO) (g:Nat) (k:bQ):aO:={ x with Tables:=x.Tables.set g k }
abbrev r7 (h:an) (m:Nat) (x:aO) (g:Nat) (k:bQ):List D:=[.sl 1 (h.au.map aN), .sl 9 ((h.ap.map bh).set m (.st [.sl 2 (x.ai.map aQ), .sl 1 (x.Out.map aN), .sl 1 (x.a_.map bz), .sl 15 (x.aa.map aY), .sl 1 (x.bX.map bH), .v (.int .i64 x.ax), .v (.int .i64 x.bq), .sl 2 ((x.Tables.map bS).set g (.st [.sl 1 (k.bY.map bz), .sl 2 (k.c8.map aQ)])), .v (.int .i64 x.Own)])), .sl 4 (h.Buffer.map aA), .sl 4 (h.aC.map aA)]
theorem jX (h:an) (m:Nat) (x:aO) (g:Nat) (k:bQ):r7 h m x g k=aq { h with ap:=h.ap.set m (A8 x g k) }:=by
 have e:bh (A8 x g k)= .st [.sl 2 (x.ai.map aQ), .sl 1 (x.Out.map aN), .sl 1 (x.a_.map bz), .sl 15 (x.aa.map aY), .sl 1 (x.bX.map bH), .v (.int .i64 x.ax), .v (.int .i64 x.bq), .sl 2 ((x.Tables.map bS).set g (.st [.sl 1 (k.bY.map bz), .sl 2 (k.c8.map aQ)])), .v (.int .i64 x.Own)]:=by
  show D.st [_,_,_,_,_,_,_, .sl 2 ((x.Tables.set g k).map bS),_]=_
  rw [List.map_set]
  rfl
 unfold r7
 show _=[_,D.sl 9 ((h.ap.set m (A8 x g k)).map bh),_,_]
 rw [List.map_set,e]
structure Lk (h:an) (m g:Nat) (ag:Int) (q:Nat) (need:Int) (x:aO) (k:bQ) (y:av):Prop where
 hs:nD (cL h m q need)
 hx:(cL h m q need).ap[m]? = some x
 hk:x.Tables[g]? = some k
 hy:x.aa[g]? = some y
 hf:lets (ask (kept h m g) ag) need=false→filled h m g ag q need={ cL h m q need with ap:=(cL h m q need).ap.set m (A8 x g (eg k y.Live x.ai ag)) }∧kept (filled h m g ag q need) m g=eg k y.Live x.ai ag
theorem B6 {h:an} {m g:Nat} {ag:Int} {q:Nat} {need:Int} {x:aO} {z:aL} {k:bQ} {y:av} (hk:XB h m g q x z k y):∃ x2 k2,Lk h m g ag q need x2 k2 y:=by
 have hs:=Np (need:=need) hk.hs hk.ha hk.hx hk.hz
 obtain ⟨x2,h2,h3⟩:=B1 (need:=need) hk.hs hk.ha hk.hx hk.hz m x hk.hx
 have h4:=hs.cE h2
 have h5:=(List.getElem?_eq_some_iff.1 hk.hy).1
 have h6:g < x2.Tables.length:=by rw [h4.2.2.2,h3];exact h5
 have h7:x2.Tables[g]? = some (x2.Tables[g]'h6):=List.getElem?_eq_getElem h6
 have h8:x2.aa[g]? = some y:=by rw [h3];exact hk.hy
 refine ⟨x2,_,hs,h2,h7,h8,fun hl=> ?_⟩
 have h9:=Pp (q:=q) hl h2 h7 h8
 refine ⟨h9, ?_⟩
 rw [h9]
 exact uv (dz h2) (dz h7)
theorem Vp {a b:List aL} (hk:de k):de (eg k a b p):=by
 unfold eg
 split
 exact hk
 split
 exact ⟨by show (put _ _ _).length ≤ _;rw [ol];exact hk.1,by show (put _ _ _).length ≤ _;rw [ol];exact hk.2⟩
 exact hk
theorem zy {m g:Nat} {q:Nat} {z:aL} (hk:XB h m g q x z k y):nD (filled h m g ag q need):=by
 cases hl:lets (ask (kept h m g) ag) need with
 | true=>rw [n7 hl];exact hk.hs
 | false=>
  obtain ⟨x2,k2,h2⟩:= @B6 h m g ag q need x z k y hk
  rw [(h2.hf hl).1]
  have h3:=h2.hs.sm h2.hx
  have h4:=h2.hs.cE h2.hx
  refine D1 h2.hs ⟨h3.1,h3.2.1,h3.2.2.1,h3.2.2.2.1,h3.2.2.2.2.1,⟨by show (x2.Tables.set _ _).length ≤ _;rw [List.length_set];exact h3.2.2.2.2.2.1,fun c hc=> ?_⟩⟩ ⟨h4.1,h4.2.1,h4.2.2.1,by show (x2.Tables.set _ _).length=_;rw [List.length_set];exact h4.2.2.2⟩
  rcases List.mem_or_eq_of_mem_set hc with hc|rfl
  exact h3.2.2.2.2.2.2 c hc
  exact Vp (h3.2.2.2.2.2.2 k2 (List.mem_of_getElem? h2.hk))
theorem HZ (h:an) (m:Int) (g:Int) (ag:Int) (need:Int) [Q (aj h)]:aF Tryz.prog 380 [A (aq h),I m,I g,I ag,I need,B false] (RG [.a (aq (((find h m g ag need false).map fun q=>q.1).getD h)), .c (.v (.int .i64 (((find h m g ag need false).map fun q=>q.2).getD (-1)))), .c (.v (.bool (find h m g ag need false).isSome))]):=by
 refine aF.wJ 200 Tryz.func380 fun w g0 hM=> ?_
 have eK:=hM.1.2.1.map
 refine JW.cut 4 [1,2,3,4,5] [] [12,15,16] (fun (_u:Unit)=>[.set 12 (.one (.ptr ⟨12,[],0⟩)), .set 15 (.one (.ptr ⟨15,[],0⟩)), .set 16 (.one (.ptr ⟨16,[],0⟩))]) (fun (_u:Unit)=>[(12,⟨true,[.own (.sl 1 []), .own (.sl 9 []), .own (.sl 4 []), .own (.sl 4 [])]⟩),(15,⟨true,[.own (.sl 1 (h.au.map aN)), .own (.sl 9 (h.ap.map bh)), .own (.sl 4 (h.Buffer.map aA)), .own (.sl 4 (h.aC.map aA))]⟩),(16,⟨true,[.own (.sl 2 ((dx h m).ai.map aQ)), .own (.sl 1 ((dx h m).Out.map aN)), .own (.sl 1 ((dx h m).a_.map bz)), .own (.sl 15 ((dx h m).aa.map aY)), .own (.sl 1 ((dx h m).bX.map bH)), .own (.v (.int .i64 (dx h m).ax)), .own (.v (.int .i64 (dx h m).bq)), .own (.sl 2 ((dx h m).Tables.map bS)), .own (.v (.int .i64 (dx h m).Own))]⟩)]) (fun (_u:Unit)=>cG h m g=true∧(need=1 ∨ need=2)) (by exact rfl) ?_
 refine ⟨fun J1 tn=> ?_,fun _u uW=> ?_⟩
 ·refine ak (aP h).k ?_
  refine ak (pS h m).k ?_
  refine ah (fo _).k ?_
  refine aB ?_ ?_ <;> intro gm
  ·refine tn _ _ _ ?_
   exact (by rw [show find h m g ag need false=none from iD (by exact Gx (by simpa using gm))];rfl)
  ·refine aB ?_ ?_ <;> intro Hw
   ·refine tn _ _ _ ?_
    exact (by rw [show find h m g ag need false=none from iD (by exact Pv (by simpa using Hw))];rfl)
   ·refine len ?_
    refine ah (bA _ _).k ?_
    refine aB ?_ ?_ <;> intro C6
    ·refine tn _ _ _ ?_
     exact (by rw [show find h m g ag need false=none from iD (by exact Pw (by simpa using C6))];rfl)
    ·refine aB ?_ ?_ <;> intro hg18
     ·refine aB ?_ ?_ <;> intro hb
      ·refine tn _ _ _ ?_
       exact (by rw [show find h m g ag need false=none from iD (by intro e;omega)];rfl)
      ·refine tn _ _ _ ?_
       exact ⟨(),⟨NA (by simpa using gm) (by simpa using Hw) (by simpa using C6),by omega⟩,(by repeat' first|exact rfl|refine And.intro ?_ ?_|exact True.intro)⟩
     ·refine tn _ _ _ ?_
      exact ⟨(),⟨NA (by simpa using gm) (by simpa using Hw) (by simpa using C6),by omega⟩,(by repeat' first|exact rfl|refine And.intro ?_ ?_|exact True.intro)⟩
 have Gy:=bO.1 uW.1
 have xP:=Gi (h:=h) Gy.2.1.1
 have hx0:=cC Gy.2.1
 have ny:=dU Gy.1 hx0
 have hmo:=dB ny
 obtain ⟨y,hy⟩:∃ y,(dx h m).aa[g.toNat]? = some y:=⟨_,List.getElem?_eq_getElem (by rw [xP];omega)⟩
 have oX:c9 h m.toNat g.toNat=y:=jF hx0 (by rw [← xP];exact hy)
 have CN:bL y=true:=(by simp only [eO,Bool.and_eq_true] at ny;exact List.all_eq_true.1 ny.1.1.2 y (List.mem_of_getElem? (by rw [← xP];exact hy)))
 have hml:=(List.getElem?_eq_some_iff.1 hx0).1
 have O2:=(List.getElem?_eq_some_iff.1 hy).1
 have sJ:Q (bf (cE h m.toNat)):=⟨j6.h _ (List.mem_of_getElem? hx0)⟩
 have qxo:Q (bf (dx h m)):=(by rw [xP];exact sJ)
 have qy:Q (aG y):=⟨j6.h y (List.mem_of_getElem? hy)⟩
 refine JW.cut 3 [1,2,3,4,5,12,15] [] [15,16] (fun (q:Int)=>[.set 18 (I q)]) (fun (q:Int)=>[(15,⟨true,[.own (.sl 1 ((hD h m q need).au.map aN)), .own (.sl 9 ((hD h m q need).ap.map bh)), .own (.sl 4 ((hD h m q need).Buffer.map aA)), .own (.sl 4 ((hD h m q need).aC.map aA))]⟩)]) (fun (q:Int)=>bn (c9 h m.toNat g.toNat).Live ag need=some q∧0 ≤ q∧q < 8) (by exact rfl) ?_
 refine ⟨fun J2 D7=> ?_,fun q hj2=> ?_⟩
 ·refine aZ ?_
  refine aI (by assumption) ?_
  refine ak (kY y.Live ag need).k ?_
  refine aB ?_ ?_ <;> intro gY
  ·refine D7 _ _ _ ?_
   exact (by rw [show find h m g ag need false=none from Eb uW oX (by assumption)];rfl)
  ·have Px:=xB (by assumption:(bn y.Live ag need).isSome=true)
   have Vq:=n5 CN Px
   refine aB ?_ ?_ <;> intro tY
   ·refine aZ ?_
    refine aI (by assumption) ?_
    refine aI (by assumption) ?_
    refine aZ ?_
    refine aI (by assumption) ?_
    refine rA (fun z5 hz5 qz5 lz5=> ?_)
    refine D7 _ _ _ ?_
    exact ⟨((bn y.Live ag need).getD (-1)),⟨by rw [oX];exact Px,Vq⟩,(by repeat' first|exact rfl|refine And.intro ?_ ?_|exact True.intro|(refine eV ?_;exact congrArg (fun l:List D=>(⟨true,l.map C.own⟩:Rt)) (xz (by exact hx0) (by omega));done))⟩
   ·refine D7 _ _ _ ?_
    exact ⟨((bn y.Live ag need).getD (-1)),⟨by rw [oX];exact Px,Vq⟩,(by repeat' first|exact rfl|refine And.intro ?_ ?_|exact True.intro|(refine eV ?_;exact congrArg (fun l:List D=>(⟨true,l.map C.own⟩:Rt)) (xA (by omega));done))⟩
 have hsm:=(by assumption:Q (aj h)).h
 obtain ⟨x,z,k,y2,eT,XD⟩:=xo (need:=need) uW.1 hsm hj2.2
 have qd:Q (aj (hD h m q need)):=eT.hs.q
 refine JW.cut 4 [1,2,3,4,12,15,18] [] [] (fun (_u:Unit)=>[.set 20 (.one (.ptr ⟨15,[],2⟩)), .set 21 (I (bZ m g))]) (fun (_u:Unit)=>[]) (fun (_u:Unit)=>nt (hD h m q need) false m g ag need=none) (by exact rfl) ?_
 refine ⟨fun J3 Py=> ?_,fun _u Vr=> ?_⟩
 ·refine ah (pR m g).k ?_
  refine ak (tf (hD h m q need).Buffer (bZ m g) ag).k ?_
  refine aB ?_ ?_ <;> intro hg1
  ·refine ah (fm _ _).k ?_
   refine aB ?_ ?_ <;> intro yW
   ·refine fW [0,1,2,3] [] [] (.fork (.alt 0 (.fork (.alt 1 (.fork (.alt 2 (.fork (.alt 3 (.quiet 4 0 (.quiet 5 0 .done)) .stop)) (.alt 3 (.fork (.alt 2 (.quiet 4 0 (.quiet 5 0 .done)) .stop)) .stop))) (.alt 3 (.fork (.alt 1 (.fork (.alt 2 (.quiet 4 0 (.quiet 5 0 .done)) .stop)) .stop)) .stop))) (.alt 1 (.fork (.alt 0 (.fork (.alt 2 (.fork (.alt 3 (.quiet 4 0 (.quiet 5 0 .done)) .stop)) (.alt 3 (.fork (.alt 2 (.quiet 4 0 (.quiet 5 0 .done)) .stop)) .stop))) (.alt 2 (.fork (.alt 0 (.fork (.alt 3 (.quiet 4 0 (.quiet 5 0 .done)) .stop)) .stop)) .stop))) .stop))) ?_
    repeat' first|exact True.intro|refine And.intro ?_ ?_
    all_goals (
     refine Py _ _ _ ?_
     exact (by rw [show find h m g ag need false=_ from Ec uW hj2.1 (by assumption) (by assumption)];rfl))
   ·refine Py _ _ _ ?_
    exact ⟨(),(wo (by right;assumption)),(by repeat' first|exact rfl|refine And.intro ?_ ?_|exact True.intro)⟩
  ·refine Py _ _ _ ?_
   exact ⟨(),(wo (by left;assumption)),(by repeat' first|exact rfl|refine And.intro ?_ ?_|exact True.intro)⟩
 obtain ⟨x2,k2,hme⟩:=B6 (ag:=ag) (need:=need) eT
 have hkk:=uv eT.hx eT.hk
 have qk:Q (de k):=⟨(eT.hs.sm eT.hx).2.2.2.2.2.2 k (List.mem_of_getElem? eT.hk)⟩
 have qk2:Q (de k2):=⟨(hme.hs.sm hme.hx).2.2.2.2.2.2 k2 (List.mem_of_getElem? hme.hk)⟩
 have qm:Q (aj (cL (hD h m q need) m.toNat q.toNat need)):=hme.hs.q
 have qx2:Q (bf x2):=⟨hme.hs.sm hme.hx⟩
 have YM:(hD h m q need).ap[m.toNat]? = some x:=eT.hx
 have hak:=eT.hk
 have He:(cL (hD h m q need) m.toNat q.toNat need).ap[m.toNat]? = some x2:=hme.hx
 have hbk:=hme.hk
 have hby:=hme.hy
 have qx1:Q (bf x):=⟨eT.hs.sm eT.hx⟩
 have l1:=(List.getElem?_eq_some_iff.1 YM).1
 have l2:=(List.getElem?_eq_some_iff.1 hak).1
 have l3:=(List.getElem?_eq_some_iff.1 He).1
 have l4:=(List.getElem?_eq_some_iff.1 hbk).1
 have l5:=(List.getElem?_eq_some_iff.1 hby).1
 have l6:m.toNat < ((cL (hD h m q need) m.toNat q.toNat need).ap.map bh).length:=by rw [List.length_map];exact l3
 have l7:g.toNat < (x2.Tables.map bS).length:=by rw [List.length_map];exact l4
 refine JW.cut 2 [3,12,13,14,15,20,21] [] [15,24] (fun (_u:Unit)=>[.set 24 (.one (.ptr ⟨24,[],0⟩))]) (fun (_u:Unit)=>[(15,⟨true,[.own (.sl 1 ((hF h m g ag q need).au.map aN)), .own (.sl 9 ((hF h m g ag q need).ap.map bh)), .own (.sl 4 ((hF h m g ag q need).Buffer.map aA)), .own (.sl 4 ((hF h m g ag q need).aC.map aA))]⟩),(24,⟨true,[.own (.v (.int .i64 (sF h m g ag q need).aJ)), .own (.v (.int .i64 (sF h m g ag q need).aT))]⟩)]) (fun (_u:Unit)=>True) (by exact rfl) ?_
 refine ⟨fun J4 Ll=> ?_,fun _u XL=> ?_⟩
 ·refine aZ ?_
  refine aI (by assumption) ?_
  refine aI (by assumption) ?_
  refine aZ ?_
  refine aI (by assumption) ?_
  refine aI (by assumption) ?_
  refine ak (kP k ag).k ?_
  refine aB ?_ ?_ <;> intro mS
  ·refine oI 15 (kR (mi:=m) (pi:=q) (row:=aq (hD h m q need)) (hD h m q need) m.toNat x q.toNat z need (by omega) (by omega) rfl (by omega) eT.hs eT.ha eT.hx eT.hz eT.sH) ?_
   refine aZ ?_
   refine cJ [27] [(0,0),(1,0),(2,0),(3,0),(4,0),(5,0),(6,0),(7,0),(8,0),(9,0),(10,0),(11,0),(12,0),(13,0),(14,0),(15,0),(16,0),(17,0),(18,0),(19,0),(20,0),(21,0),(22,0),(23,0),(24,0),(25,1),(26,0),(27,1)] ?_
   refine aI (by assumption) ?_
   refine aI (by assumption) ?_
   refine aI (by assumption) ?_
   refine aZ ?_
   refine aI (by assumption) ?_
   refine aI (by assumption) ?_
   refine aI (by assumption) ?_
   refine aI (by assumption) ?_
   refine aZ ?_
   refine aI (by assumption) ?_
   refine aI (by assumption) ?_
   refine aI (by assumption) ?_
   refine ak (mP k2 y2.Live x2.ai ag).k ?_
   refine aI (by assumption) ?_
   refine aZ ?_
   refine aI (by assumption) ?_
   refine aI (by assumption) ?_
   refine cA ?_
   refine cA ?_
   refine aZ ?_
   refine cA ?_
   refine cA ?_
   refine ak (kP (eg k2 y2.Live x2.ai ag) ag).k ?_ (by repeat first|exact rfl|refine eB.mk (by exact WD.w) ?_|refine cA ?_)
   refine Ll _ _ _ ?_
   exact ⟨(),trivial,(by repeat' first|exact rfl|refine And.intro ?_ ?_|exact True.intro|(refine eV ?_;first|exact congrArg (fun l:List D=>(⟨true,l.map C.own⟩:Rt)) ((jX _ _ _ _ _).trans (congrArg aq (hme.hf (iE (by rw [hkk];(left;assumption)))).1.symm))|(unfold sF;rw [(hme.hf (iE (by rw [hkk];(left;assumption)))).2]);done))⟩
  ·refine aB ?_ ?_ <;> intro Hw
   ·refine oI 15 (kR (mi:=m) (pi:=q) (row:=aq (hD h m q need)) (hD h m q need) m.toNat x q.toNat z need (by omega) (by omega) rfl (by omega) eT.hs eT.ha eT.hx eT.hz eT.sH) ?_
    refine aZ ?_
    refine cJ [27] [(0,0),(1,0),(2,0),(3,0),(4,0),(5,0),(6,0),(7,0),(8,0),(9,0),(10,0),(11,0),(12,0),(13,0),(14,0),(15,0),(16,0),(17,0),(18,0),(19,0),(20,0),(21,0),(22,0),(23,0),(24,0),(25,1),(26,0),(27,1)] ?_
    refine aI (by assumption) ?_
    refine aI (by assumption) ?_
    refine aI (by assumption) ?_
    refine aZ ?_
    refine aI (by assumption) ?_
    refine aI (by assumption) ?_
    refine aI (by assumption) ?_
    refine aI (by assumption) ?_
    refine aZ ?_
    refine aI (by assumption) ?_
    refine aI (by assumption) ?_
    refine aI (by assumption) ?_
    refine ak (mP k2 y2.Live x2.ai ag).k ?_
    refine aI (by assumption) ?_
    refine aZ ?_
    refine aI (by assumption) ?_
    refine aI (by assumption) ?_
    refine cA ?_
    refine cA ?_
    refine aZ ?_
    refine cA ?_
    refine cA ?_
    refine ak (kP (eg k2 y2.Live x2.ai ag) ag).k ?_ (by repeat first|exact rfl|refine eB.mk (by exact WD.w) ?_|refine cA ?_)
    refine Ll _ _ _ ?_
    exact ⟨(),trivial,(by repeat' first|exact rfl|refine And.intro ?_ ?_|exact True.intro|(refine eV ?_;first|exact congrArg (fun l:List D=>(⟨true,l.map C.own⟩:Rt)) ((jX _ _ _ _ _).trans (congrArg aq (hme.hf (iE (by rw [hkk];(right;left;assumption)))).1.symm))|(unfold sF;rw [(hme.hf (iE (by rw [hkk];(right;left;assumption)))).2]);done))⟩
   ·refine ah (fm _ _).k ?_
    refine aB ?_ ?_ <;> intro CE
    ·refine oI 15 (kR (mi:=m) (pi:=q) (row:=aq (hD h m q need)) (hD h m q need) m.toNat x q.toNat z need (by omega) (by omega) rfl (by omega) eT.hs eT.ha eT.hx eT.hz eT.sH) ?_
     refine aZ ?_
     refine cJ [27] [(0,0),(1,0),(2,0),(3,0),(4,0),(5,0),(6,0),(7,0),(8,0),(9,0),(10,0),(11,0),(12,0),(13,0),(14,0),(15,0),(16,0),(17,0),(18,0),(19,0),(20,0),(21,0),(22,0),(23,0),(24,0),(25,1),(26,0),(27,1)] ?_
     refine aI (by assumption) ?_
     refine aI (by assumption) ?_
     refine aI (by assumption) ?_
     refine aZ ?_
     refine aI (by assumption) ?_
     refine aI (by assumption) ?_
     refine aI (by assumption) ?_
     refine aI (by assumption) ?_
     refine aZ ?_
     refine aI (by assumption) ?_
     refine aI (by assumption) ?_
     refine aI (by assumption) ?_
     refine ak (mP k2 y2.Live x2.ai ag).k ?_
     refine aI (by assumption) ?_
     refine aZ ?_
     refine aI (by assumption) ?_
     refine aI (by assumption) ?_
     refine cA ?_
     refine cA ?_
     refine aZ ?_
     refine cA ?_
     refine cA ?_
     refine ak (kP (eg k2 y2.Live x2.ai ag) ag).k ?_ (by repeat first|exact rfl|refine eB.mk (by exact WD.w) ?_|refine cA ?_)
     refine Ll _ _ _ ?_
     exact ⟨(),trivial,(by repeat' first|exact rfl|refine And.intro ?_ ?_|exact True.intro|(refine eV ?_;first|exact congrArg (fun l:List D=>(⟨true,l.map C.own⟩:Rt)) ((jX _ _ _ _ _).trans (congrArg aq (hme.hf (iE (by rw [hkk];(right;right;assumption)))).1.symm))|(unfold sF;rw [(hme.hf (iE (by rw [hkk];(right;right;assumption)))).2]);done))⟩
    ·refine Ll _ _ _ ?_
     exact ⟨(),trivial,(by repeat' first|exact rfl|refine And.intro ?_ ?_|exact True.intro|(refine eV ?_;first|(unfold hF;rw [n7 (by rw [hkk];exact tu (by assumption) (by assumption) (by assumption))])|(unfold sF hF;rw [n7 (by rw [hkk];exact tu (by assumption) (by assumption) (by assumption)),hkk]);done))⟩
 have qf:Q (aj (hF h m g ag q need)):=(zy (ag:=ag) (need:=need) eT).q
 refine JW.w ?_
 refine cJ [13] [(0,0),(1,0),(2,0),(3,0),(4,0),(5,0),(6,0),(7,0),(8,0),(9,0),(10,0),(11,1),(12,0),(13,1)] ?_
 refine bk (uS (hF h m g ag q need).Buffer (eF h m g ag q need)).k ?_
 refine fW [0,1,2,3] [] [] (.fork (.alt 0 (.fork (.alt 1 (.fork (.alt 2 (.fork (.alt 3 (.quiet 4 0 (.quiet 5 0 .done)) .stop)) (.alt 3 (.fork (.alt 2 (.quiet 4 0 (.quiet 5 0 .done)) .stop)) .stop))) (.alt 3 (.fork (.alt 1 (.fork (.alt 2 (.quiet 4 0 (.quiet 5 0 .done)) .stop)) .stop)) .stop))) (.alt 1 (.fork (.alt 0 (.fork (.alt 2 (.fork (.alt 3 (.quiet 4 0 (.quiet 5 0 .done)) .stop)) (.alt 3 (.fork (.alt 2 (.quiet 4 0 (.quiet 5 0 .done)) .stop)) .stop))) (.alt 2 (.fork (.alt 0 (.fork (.alt 3 (.quiet 4 0 (.quiet 5 0 .done)) .stop)) .stop)) .stop))) .stop))) ?_
 repeat' first|exact True.intro|refine And.intro ?_ ?_
 all_goals exact (by rw [show find h m g ag need false=_ from tt uW hj2.1 Vr];rfl)
theorem Gz (h:an) (m:Int) (g:Int) (ag:Int) (need:Int) [Q (aj h)]:aF Tryz.prog 380 [A (aq h),I m,I g,I ag,I need,B true] (RG [.a (aq (((find h m g ag need true).map fun q=>q.1).getD h)), .c (.v (.int .i64 (((find h m g ag need true).map fun q=>q.2).getD (-1)))), .c (.v (.bool (find h m g ag need true).isSome))]):=by
 refine aF.wJ 200 Tryz.func380 fun w g0 hM=> ?_
 have eK:=hM.1.2.1.map
 refine JW.cut 4 [1,2,3,4,5] [] [12,15,16] (fun (_u:Unit)=>[.set 12 (.one (.ptr ⟨12,[],0⟩)), .set 15 (.one (.ptr ⟨15,[],0⟩)), .set 16 (.one (.ptr ⟨16,[],0⟩))]) (fun (_u:Unit)=>[(12,⟨true,[.own (.sl 1 []), .own (.sl 9 []), .own (.sl 4 []), .own (.sl 4 [])]⟩),(15,⟨true,[.own (.sl 1 (h.au.map aN)), .own (.sl 9 (h.ap.map bh)), .own (.sl 4 (h.Buffer.map aA)), .own (.sl 4 (h.aC.map aA))]⟩),(16,⟨true,[.own (.sl 2 ((dx h m).ai.map aQ)), .own (.sl 1 ((dx h m).Out.map aN)), .own (.sl 1 ((dx h m).a_.map bz)), .own (.sl 15 ((dx h m).aa.map aY)), .own (.sl 1 ((dx h m).bX.map bH)), .own (.v (.int .i64 (dx h m).ax)), .own (.v (.int .i64 (dx h m).bq)), .own (.sl 2 ((dx h m).Tables.map bS)), .own (.v (.int .i64 (dx h m).Own))]⟩)]) (fun (_u:Unit)=>cG h m g=true∧(need=1 ∨ need=2)) (by exact rfl) ?_
 refine ⟨fun J1 tn=> ?_,fun _u uW=> ?_⟩
 ·refine ak (aP h).k ?_
  refine ak (pS h m).k ?_
  refine ah (fo _).k ?_
  refine aB ?_ ?_ <;> intro gm
  ·refine tn _ _ _ ?_
   exact (by rw [show find h m g ag need true=none from iD (by exact Gx (by simpa using gm))];rfl)
  ·refine aB ?_ ?_ <;> intro Hw
   ·refine tn _ _ _ ?_
    exact (by rw [show find h m g ag need true=none from iD (by exact Pv (by simpa using Hw))];rfl)
   ·refine len ?_
    refine ah (bA _ _).k ?_
    refine aB ?_ ?_ <;> intro C6
    ·refine tn _ _ _ ?_
     exact (by rw [show find h m g ag need true=none from iD (by exact Pw (by simpa using C6))];rfl)
    ·refine aB ?_ ?_ <;> intro hg18
     ·refine aB ?_ ?_ <;> intro hb
      ·refine tn _ _ _ ?_
       exact (by rw [show find h m g ag need true=none from iD (by intro e;omega)];rfl)
      ·refine tn _ _ _ ?_
       exact ⟨(),⟨NA (by simpa using gm) (by simpa using Hw) (by simpa using C6),by omega⟩,(by repeat' first|exact rfl|refine And.intro ?_ ?_|exact True.intro)⟩
     ·refine tn _ _ _ ?_
      exact ⟨(),⟨NA (by simpa using gm) (by simpa using Hw) (by simpa using C6),by omega⟩,(by repeat' first|exact rfl|refine And.intro ?_ ?_|exact True.intro)⟩
 have Gy:=bO.1 uW.1
 have xP:=Gi (h:=h) Gy.2.1.1
 have hx0:=cC Gy.2.1
 have ny:=dU Gy.1 hx0
 have hmo:=dB ny
 obtain ⟨y,hy⟩:∃ y,(dx h m).aa[g.toNat]? = some y:=⟨_,List.getElem?_eq_getElem (by rw [xP];omega)⟩
 have oX:c9 h m.toNat g.toNat=y:=jF hx0 (by rw [← xP];exact hy)
 have CN:bL y=true:=(by simp only [eO,Bool.and_eq_true] at ny;exact List.all_eq_true.1 ny.1.1.2 y (List.mem_of_getElem? (by rw [← xP];exact hy)))
 have hml:=(List.getElem?_eq_some_iff.1 hx0).1
 have O2:=(List.getElem?_eq_some_iff.1 hy).1
 have sJ:Q (bf (cE h m.toNat)):=⟨j6.h _ (List.mem_of_getElem? hx0)⟩
 have qxo:Q (bf (dx h m)):=(by rw [xP];exact sJ)
 have qy:Q (aG y):=⟨j6.h y (List.mem_of_getElem? hy)⟩
 refine JW.cut 3 [1,2,3,4,5,12,15] [] [15,16] (fun (q:Int)=>[.set 18 (I q)]) (fun (q:Int)=>[(15,⟨true,[.own (.sl 1 ((hD h m q need).au.map aN)), .own (.sl 9 ((hD h m q need).ap.map bh)), .own (.sl 4 ((hD h m q need).Buffer.map aA)), .own (.sl 4 ((hD h m q need).aC.map aA))]⟩)]) (fun (q:Int)=>bn (c9 h m.toNat g.toNat).Live ag need=some q∧0 ≤ q∧q < 8) (by exact rfl) ?_
 refine ⟨fun J2 D7=> ?_,fun q hj2=> ?_⟩
 ·refine aZ ?_
  refine aI (by assumption) ?_
  refine ak (kY y.Live ag need).k ?_
  refine aB ?_ ?_ <;> intro gY
  ·refine D7 _ _ _ ?_
   exact (by rw [show find h m g ag need true=none from Eb uW oX (by assumption)];rfl)
  ·have Px:=xB (by assumption:(bn y.Live ag need).isSome=true)
   have Vq:=n5 CN Px
   refine aB ?_ ?_ <;> intro tY
   ·refine aZ ?_
    refine aI (by assumption) ?_
    refine aI (by assumption) ?_
    refine aZ ?_
    refine aI (by assumption) ?_
    refine rA (fun z5 hz5 qz5 lz5=> ?_)
    refine D7 _ _ _ ?_
    exact ⟨((bn y.Live ag need).getD (-1)),⟨by rw [oX];exact Px,Vq⟩,(by repeat' first|exact rfl|refine And.intro ?_ ?_|exact True.intro|(refine eV ?_;exact congrArg (fun l:List D=>(⟨true,l.map C.own⟩:Rt)) (xz (by exact hx0) (by omega));done))⟩
   ·refine D7 _ _ _ ?_
    exact ⟨((bn y.Live ag need).getD (-1)),⟨by rw [oX];exact Px,Vq⟩,(by repeat' first|exact rfl|refine And.intro ?_ ?_|exact True.intro|(refine eV ?_;exact congrArg (fun l:List D=>(⟨true,l.map C.own⟩:Rt)) (xA (by omega));done))⟩
 have hsm:=(by assumption:Q (aj h)).h
 obtain ⟨x,z,k,y2,eT,XD⟩:=xo (need:=need) uW.1 hsm hj2.2
 have qd:Q (aj (hD h m q need)):=eT.hs.q
 refine JW.cut 4 [1,2,3,4,12,15,18] [] [] (fun (_u:Unit)=>[.set 20 (.one (.ptr ⟨15,[],3⟩)), .set 21 (I (bZ m g))]) (fun (_u:Unit)=>[]) (fun (_u:Unit)=>nt (hD h m q need) true m g ag need=none) (by exact rfl) ?_
 refine ⟨fun J3 Py=> ?_,fun _u Vr=> ?_⟩
 ·refine ah (pR m g).k ?_
  refine ak (tf (hD h m q need).aC (bZ m g) ag).k ?_
  refine aB ?_ ?_ <;> intro hg1
  ·refine ah (fm _ _).k ?_
   refine aB ?_ ?_ <;> intro yW
   ·refine fW [0,1,2,3] [] [] (.fork (.alt 0 (.fork (.alt 1 (.fork (.alt 2 (.fork (.alt 3 (.quiet 4 0 (.quiet 5 0 .done)) .stop)) (.alt 3 (.fork (.alt 2 (.quiet 4 0 (.quiet 5 0 .done)) .stop)) .stop))) (.alt 3 (.fork (.alt 1 (.fork (.alt 2 (.quiet 4 0 (.quiet 5 0 .done)) .stop)) .stop)) .stop))) (.alt 1 (.fork (.alt 0 (.fork (.alt 2 (.fork (.alt 3 (.quiet 4 0 (.quiet 5 0 .done)) .stop)) (.alt 3 (.fork (.alt 2 (.quiet 4 0 (.quiet 5 0 .done)) .stop)) .stop))) (.alt 2 (.fork (.alt 0 (.fork (.alt 3 (.quiet 4 0 (.quiet 5 0 .done)) .stop)) .stop)) .stop))) .stop))) ?_
    repeat' first|exact True.intro|refine And.intro ?_ ?_
    all_goals (
     refine Py _ _ _ ?_
     exact (by rw [show find h m g ag need true=_ from Ec uW hj2.1 (by assumption) (by assumption)];rfl))
   ·refine Py _ _ _ ?_
    exact ⟨(),(wo (by right;assumption)),(by repeat' first|exact rfl|refine And.intro ?_ ?_|exact True.intro)⟩
  ·refine Py _ _ _ ?_
   exact ⟨(),(wo (by left;assumption)),(by repeat' first|exact rfl|refine And.intro ?_ ?_|exact True.intro)⟩
 obtain ⟨x2,k2,hme⟩:=B6 (ag:=ag) (need:=need) eT
 have hkk:=uv eT.hx eT.hk
 have qk:Q (de k):=⟨(eT.hs.sm eT.hx).2.2.2.2.2.2 k (List.mem_of_getElem? eT.hk)⟩
 have qk2:Q (de k2):=⟨(hme.hs.sm hme.hx).2.2.2.2.2.2 k2 (List.mem_of_getElem? hme.hk)⟩
 have qm:Q (aj (cL (hD h m q need) m.toNat q.toNat need)):=hme.hs.q
 have qx2:Q (bf x2):=⟨hme.hs.sm hme.hx⟩
 have YM:(hD h m q need).ap[m.toNat]? = some x:=eT.hx
 have hak:=eT.hk
 have He:(cL (hD h m q need) m.toNat q.toNat need).ap[m.toNat]? = some x2:=hme.hx
 have hbk:=hme.hk
 have hby:=hme.hy
 have qx1:Q (bf x):=⟨eT.hs.sm eT.hx⟩
 have l1:=(List.getElem?_eq_some_iff.1 YM).1
 have l2:=(List.getElem?_eq_some_iff.1 hak).1
 have l3:=(List.getElem?_eq_some_iff.1 He).1
 have l4:=(List.getElem?_eq_some_iff.1 hbk).1
 have l5:=(List.getElem?_eq_some_iff.1 hby).1
 have l6:m.toNat < ((cL (hD h m q need) m.toNat q.toNat need).ap.map bh).length:=by rw [List.length_map];exact l3
 have l7:g.toNat < (x2.Tables.map bS).length:=by rw [List.length_map];exact l4
 refine JW.cut 2 [3,12,13,14,15,20,21] [] [15,24] (fun (_u:Unit)=>[.set 24 (.one (.ptr ⟨24,[],0⟩))]) (fun (_u:Unit)=>[(15,⟨true,[.own (.sl 1 ((hF h m g ag q need).au.map aN)), .own (.sl 9 ((hF h m g ag q need).ap.map bh)), .own (.sl 4 ((hF h m g ag q need).Buffer.map aA)), .own (.sl 4 ((hF h m g ag q need).aC.map aA))]⟩),(24,⟨true,[.own (.v (.int .i64 (sF h m g ag q need).aJ)), .own (.v (.int .i64 (sF h m g ag q need).aT))]⟩)]) (fun (_u:Unit)=>True) (by exact rfl) ?_
 refine ⟨fun J4 Ll=> ?_,fun _u XL=> ?_⟩
 ·refine aZ ?_
  refine aI (by assumption) ?_
  refine aI (by assumption) ?_
  refine aZ ?_
  refine aI (by assumption) ?_
  refine aI (by assumption) ?_
  refine ak (kP k ag).k ?_
  refine aB ?_ ?_ <;> intro mS
  ·refine oI 15 (kR (mi:=m) (pi:=q) (row:=aq (hD h m q need)) (hD h m q need) m.toNat x q.toNat z need (by omega) (by omega) rfl (by omega) eT.hs eT.ha eT.hx eT.hz eT.sH) ?_
   refine aZ ?_
   refine cJ [27] [(0,0),(1,0),(2,0),(3,0),(4,0),(5,0),(6,0),(7,0),(8,0),(9,0),(10,0),(11,0),(12,0),(13,0),(14,0),(15,0),(16,0),(17,0),(18,0),(19,0),(20,0),(21,0),(22,0),(23,0),(24,0),(25,1),(26,0),(27,1)] ?_
   refine aI (by assumption) ?_
   refine aI (by assumption) ?_
   refine aI (by assumption) ?_
   refine aZ ?_
   refine aI (by assumption) ?_
   refine aI (by assumption) ?_
   refine aI (by assumption) ?_
   refine aI (by assumption) ?_
   refine aZ ?_
   refine aI (by assumption) ?_
   refine aI (by assumption) ?_
   refine aI (by assumption) ?_
   refine ak (mP k2 y2.Live x2.ai ag).k ?_
   refine aI (by assumption) ?_
   refine aZ ?_
   refine aI (by assumption) ?_
   refine aI (by assumption) ?_
   refine cA ?_
   refine cA ?_
   refine aZ ?_
   refine cA ?_
   refine cA ?_
   refine ak (kP (eg k2 y2.Live x2.ai ag) ag).k ?_ (by repeat first|exact rfl|refine eB.mk (by exact WD.w) ?_|refine cA ?_)
   refine Ll _ _ _ ?_
   exact ⟨(),trivial,(by repeat' first|exact rfl|refine And.intro ?_ ?_|exact True.intro|(refine eV ?_;first|exact congrArg (fun l:List D=>(⟨true,l.map C.own⟩:Rt)) ((jX _ _ _ _ _).trans (congrArg aq (hme.hf (iE (by rw [hkk];(left;assumption)))).1.symm))|(unfold sF;rw [(hme.hf (iE (by rw [hkk];(left;assumption)))).2]);done))⟩
  ·refine aB ?_ ?_ <;> intro Hw
   ·refine oI 15 (kR (mi:=m) (pi:=q) (row:=aq (hD h m q need)) (hD h m q need) m.toNat x q.toNat z need (by omega) (by omega) rfl (by omega) eT.hs eT.ha eT.hx eT.hz eT.sH) ?_
    refine aZ ?_
    refine cJ [27] [(0,0),(1,0),(2,0),(3,0),(4,0),(5,0),(6,0),(7,0),(8,0),(9,0),(10,0),(11,0),(12,0),(13,0),(14,0),(15,0),(16,0),(17,0),(18,0),(19,0),(20,0),(21,0),(22,0),(23,0),(24,0),(25,1),(26,0),(27,1)] ?_
    refine aI (by assumption) ?_
    refine aI (by assumption) ?_
    refine aI (by assumption) ?_
    refine aZ ?_
    refine aI (by assumption) ?_
    refine aI (by assumption) ?_
    refine aI (by assumption) ?_
    refine aI (by assumption) ?_
    refine aZ ?_
    refine aI (by assumption) ?_
    refine aI (by assumption) ?_
    refine aI (by assumption) ?_
    refine ak (mP k2 y2.Live x2.ai ag).k ?_
    refine aI (by assumption) ?_
    refine aZ ?_
    refine aI (by assumption) ?_
    refine aI (by assumption) ?_
    refine cA ?_
    refine cA ?_
    refine aZ ?_
    refine cA ?_
    refine cA ?_
    refine ak (kP (eg k2 y2.Live x2.ai ag) ag).k ?_ (by repeat first|exact rfl|refine eB.mk (by exact WD.w) ?_|refine cA ?_)
    refine Ll _ _ _ ?_
    exact ⟨(),trivial,(by repeat' first|exact rfl|refine And.intro ?_ ?_|exact True.intro|(refine eV ?_;first|exact congrArg (fun l:List D=>(⟨true,l.map C.own⟩:Rt)) ((jX _ _ _ _ _).trans (congrArg aq (hme.hf (iE (by rw [hkk];(right;left;assumption)))).1.symm))|(unfold sF;rw [(hme.hf (iE (by rw [hkk];(right;left;assumption)))).2]);done))⟩
   ·refine ah (fm _ _).k ?_
    refine aB ?_ ?_ <;> intro CE
    ·refine oI 15 (kR (mi:=m) (pi:=q) (row:=aq (hD h m q need)) (hD h m q need) m.toNat x q.toNat z need (by omega) (by omega) rfl (by omega) eT.hs eT.ha eT.hx eT.hz eT.sH) ?_
     refine aZ ?_
     refine cJ [27] [(0,0),(1,0),(2,0),(3,0),(4,0),(5,0),(6,0),(7,0),(8,0),(9,0),(10,0),(11,0),(12,0),(13,0),(14,0),(15,0),(16,0),(17,0),(18,0),(19,0),(20,0),(21,0),(22,0),(23,0),(24,0),(25,1),(26,0),(27,1)] ?_
     refine aI (by assumption) ?_
     refine aI (by assumption) ?_
     refine aI (by assumption) ?_
     refine aZ ?_
     refine aI (by assumption) ?_
     refine aI (by assumption) ?_
     refine aI (by assumption) ?_
     refine aI (by assumption) ?_
     refine aZ ?_
     refine aI (by assumption) ?_
     refine aI (by assumption) ?_
     refine aI (by assumption) ?_
     refine ak (mP k2 y2.Live x2.ai ag).k ?_
     refine aI (by assumption) ?_
     refine aZ ?_
     refine aI (by assumption) ?_
     refine aI (by assumption) ?_
     refine cA ?_
     refine cA ?_
     refine aZ ?_
     refine cA ?_
     refine cA ?_
     refine ak (kP (eg k2 y2.Live x2.ai ag) ag).k ?_ (by repeat first|exact rfl|refine eB.mk (by exact WD.w) ?_|refine cA ?_)
     refine Ll _ _ _ ?_
     exact ⟨(),trivial,(by repeat' first|exact rfl|refine And.intro ?_ ?_|exact True.intro|(refine eV ?_;first|exact congrArg (fun l:List D=>(⟨true,l.map C.own⟩:Rt)) ((jX _ _ _ _ _).trans (congrArg aq (hme.hf (iE (by rw [hkk];(right;right;assumption)))).1.symm))|(unfold sF;rw [(hme.hf (iE (by rw [hkk];(right;right;assumption)))).2]);done))⟩
    ·refine Ll _ _ _ ?_
     exact ⟨(),trivial,(by repeat' first|exact rfl|refine And.intro ?_ ?_|exact True.intro|(refine eV ?_;first|(unfold hF;rw [n7 (by rw [hkk];exact tu (by assumption) (by assumption) (by assumption))])|(unfold sF hF;rw [n7 (by rw [hkk];exact tu (by assumption) (by assumption) (by assumption)),hkk]);done))⟩
 have qf:Q (aj (hF h m g ag q need)):=(zy (ag:=ag) (need:=need) eT).q
 refine JW.w ?_
 refine cJ [13] [(0,0),(1,0),(2,0),(3,0),(4,0),(5,0),(6,0),(7,0),(8,0),(9,0),(10,0),(11,1),(12,0),(13,1)] ?_
 refine bk (uS (hF h m g ag q need).aC (eF h m g ag q need)).k ?_
 refine fW [0,1,2,3] [] [] (.fork (.alt 0 (.fork (.alt 1 (.fork (.alt 2 (.fork (.alt 3 (.quiet 4 0 (.quiet 5 0 .done)) .stop)) (.alt 3 (.fork (.alt 2 (.quiet 4 0 (.quiet 5 0 .done)) .stop)) .stop))) (.alt 3 (.fork (.alt 1 (.fork (.alt 2 (.quiet 4 0 (.quiet 5 0 .done)) .stop)) .stop)) .stop))) (.alt 1 (.fork (.alt 0 (.fork (.alt 2 (.fork (.alt 3 (.quiet 4 0 (.quiet 5 0 .done)) .stop)) (.alt 3 (.fork (.alt 2 (.quiet 4 0 (.quiet 5 0 .done)) .stop)) .stop))) (.alt 2 (.fork (.alt 0 (.fork (.alt 3 (.quiet 4 0 (.quiet 5 0 .done)) .stop)) .stop)) .stop))) .stop))) ?_
 repeat' first|exact True.intro|refine And.intro ?_ ?_
 all_goals exact (by rw [show find h m g ag need true=_ from tt uW hj2.1 Vr];rfl)
end
end Go.Proofs.YtdliggkohdnipaaGreat.T
