import Derived.Test.YtdliggkohdnipaaGreatRvq
import Derived.Test.YtdliggkohdnipaaGreatPiq
import Derived.Test.YtdliggkohdnipaaGreatQiq
import Derived.Test.YtdliggkohdnipaaGreatQfq
import Derived.Test.YtdliggkohdnipaaGreatQeq
import Derived.Test.YtdliggkohdnipaaGreatNsq
set_option linter.unusedVariables false
set_option linter.unusedSimpArgs false
namespace Go.Proofs.YtdliggkohdnipaaGreat.T
open Go
section
variable {i k:Nat} {h:ap} {x:aV}
set_option maxRecDepth 100000
set_option maxHeartbeats 8000000
def wR {α:Type} (f: α→ α) (l:List α) (i:Nat):List α:=(l.take i).map f ++ l.drop i
section
variable {α:Type} {f: α→ α} {l:List α} {i:Nat} {x: α}
theorem yp (h:l[i]? = some x):(wR f l i)[i]? = some x:=by
 have hi:=(aM.1 h).1
 unfold wR
 rw [nO (by simp;omega)]
 simp only [aI,e_,Nat.min_eq_left (Nat.le_of_lt hi),Nat.sub_self,List.getElem?_drop,Nat.add_zero]
 exact h
theorem IA (h:l[i]? = some x):wR f l (i + 1)=(wR f l i).set i (f x):=by
 obtain ⟨hi,he⟩:=aM.1 h
 have hd:l.drop i=x :: l.drop (i + 1):=by rw [Bg hi,he]
 unfold wR
 rw [hd,fX,h,iW,List.set_append_right _ _ (by simp;omega)]
 simp only [aI,e_,Nat.min_eq_left (Nat.le_of_lt hi),Nat.sub_self,List.set_cons_zero,rX]
 rfl
theorem Lc (h:l.length ≤ i):wR f l i=l.map f:=by
 unfold wR
 rw [fu h,List.drop_of_length_le h,List.append_nil]
theorem zl:(wR f l i).length=l.length:=by
 unfold wR
 simp only [o4,aI,e_,List.length_drop]
 omega
theorem set_is (h:l[i]? = some x):l.set i x=l:=by
 apply List.ext_getElem?
 intro j
 rw [nN]
 by_cases hj:i=j
 subst hj
 rw [if_pos rfl,if_pos (aM.1 h).1,h]
 rw [if_neg hj]
end
def eo (x:aV) (k:Nat):aV:={ x with Tables:=wR iQ x.Tables k }
abbrev oY (h:ap) (i:Nat):List aV:=wR GI h.ai i
theorem SL (hx:h.ai[i]? = some x):(oY h i).set i (eo x 0)=oY h i:=set_is (yp hx)
theorem Ph (hx:h.ai[i]? = some x) (hk:x.Tables.length ≤ k):oY h (i + 1)=(oY h i).set i (eo x k):=by
 have e:eo x k=GI x:=by
  unfold eo GI
  rw [Lc hk]
 rw [e]
 exact IA hx
theorem Ld {t:cE} (hx:h.ai[i]? = some x) (ht:x.Tables[k]? = some t):((oY h i).set i (eo x (k + 1))).map bA=(((oY h i).set i (eo x k)).map bA).set i (.st [.sl 2 ((eo x k).ak.map aT), .sl 1 ((eo x k).Out.map aP), .sl 1 ((eo x k).bI.map bO), .sl 15 ((eo x k).aa.map bp), .sl 1 ((eo x k).cm.map bS), .v (.int .i64 (eo x k).av), .v (.int .i64 (eo x k).bn), .sl 2 (((eo x k).Tables.map cz).set k (.st [.sl 1 ((iQ t).cG.map bO), .sl 2 ((iQ t).dQ.map aT)])), .v (.int .i64 (eo x k).Own)]):=by
 have e:bA (eo x (k + 1))= .st [.sl 2 ((eo x k).ak.map aT), .sl 1 ((eo x k).Out.map aP), .sl 1 ((eo x k).bI.map bO), .sl 15 ((eo x k).aa.map bp), .sl 1 ((eo x k).cm.map bS), .v (.int .i64 (eo x k).av), .v (.int .i64 (eo x k).bn), .sl 2 (((eo x k).Tables.map cz).set k (.st [.sl 1 ((iQ t).cG.map bO), .sl 2 ((iQ t).dQ.map aT)])), .v (.int .i64 (eo x k).Own)]:=by
  show D.st [_,_,_,_,_,_,_, .sl 2 ((wR iQ x.Tables (k + 1)).map cz),_]=_
  rw [IA ht,bL]
  rfl
 rw [bL,bL,cS,e]
theorem Pj (hi:h.ai.length ≤ i):L2 h={ h with ai:=oY h i,Buffer:=[],aD:=[] }:=by
 unfold L2 oY
 rw [Lc hi]
theorem Pk (h:ap) [Q (aj h)]:aF Tryz.prog 335 [A (aq h)] (RG [.a (aq (L2 h))]):=by
 refine aF.w 48 Tryz.func335 fun w g0 hM=> ?_
 have eW:=hM.1.2.1.map
 refine an (cF h).k ?_
 refine ck [1,2] [] [1] (fun (i:Nat)=>[.set 3 (I i)]) (fun (i:Nat)=>[(1,⟨true,[.own (.sl 1 (h.au.map aP)), .own (.sl 9 ((oY h i).map bA)), .own (.sl 4 (h.Buffer.map aC)), .own (.sl 4 (h.aD.map aC))]⟩)]) (fun (i:Nat)=>i ≤ h.ai.length) (fun (i:Nat)=>h.ai.length - i) (0) (bG _) ?_
 refine ⟨hda,fun i hyp N1 bq=> ?_⟩
 have hyp:i ≤ h.ai.length:=hyp
 have S8:(oY h i).length=h.ai.length:=zl
 have hml:=(inferInstance:cX h.ai 1048576).h
 refine len ?_
 refine aB ?_ ?_ <;> intro hb
 obtain ⟨x,hx⟩:∃ x,h.ai[i]? = some x:=⟨_,bg (by omega)⟩
 have hxl:=(aM.1 hx).1
 have hxm:=yp (f:=GI) hx
 have qx:Q (bt x):=⟨jW.h x (aH hx)⟩
 have p_:=(inferInstance:cX x.Tables 1048576).h
 refine ck [1,2,3] [] [1] (fun (k:Nat)=>[.set 4 (I k)]) (fun (k:Nat)=>[(1,⟨true,[.own (.sl 1 (h.au.map aP)), .own (.sl 9 (((oY h i).set i (eo x k)).map bA)), .own (.sl 4 (h.Buffer.map aC)), .own (.sl 4 (h.aD.map aC))]⟩)]) (fun (k:Nat)=>k ≤ x.Tables.length) (fun (k:Nat)=>x.Tables.length - k) (0) (bG _) ?_
 refine ⟨(hda (by repeat' first|exact rfl|constructor|(refine dL ?_;rw [SL hx];done))),fun k fq N2 oL=> ?_⟩
 have fq:k ≤ x.Tables.length:=fq
 have hxs:((oY h i).set i (eo x k))[i]? = some (eo x k):=dS hxm
 have hxk:(eo x k).Tables.length=x.Tables.length:=zl
 have PC:=(aM.1 hxs).1
 have hsl2:i < (((oY h i).set i (eo x k)).map bA).length:=by rw [aI];exact PC
 have QR:((eo x k).Tables.map cz).length=x.Tables.length:=by rw [aI];exact hxk
 refine di ?_
 refine aL ‹_› ?_
 refine aL ‹_› ?_
 refine len ?_
 refine aB ?_ ?_ <;> intro iz
 obtain ⟨t,ht⟩:∃ t,x.Tables[k]? = some t:=⟨_,bg (by omega)⟩
 have htm:(eo x k).Tables[k]? = some t:=yp (f:=iQ) ht
 have qt:Q (dR t):=⟨jW.h t (aH ht)⟩
 have JO:=(aM.1 htm).1
 refine cI [18] [(0,0),(1,0),(2,0),(3,0),(4,0),(5,0),(6,0),(7,0),(8,0),(9,0),(10,0),(11,0),(12,0),(13,0),(14,0),(15,0),(16,1),(17,0),(18,1)] ?_
 refine di ?_
 refine aL ‹_› ?_
 refine di ?_
 refine aL ‹_› ?_
 refine aL ‹_› ?_
 refine di ?_
 refine aL ‹_› ?_
 refine aL ‹_› ?_
 refine an (Dc t).k ?_
 refine aL ‹_› ?_
 refine di ?_
 refine aL ‹_› ?_
 refine aL ‹_› ?_
 refine cg ?_
 refine oL _ _ _ ?_
 refine hY (k + 1) (by omega) (by repeat' first|exact rfl|constructor|(refine dL ?_;rw [Ld hx ht];done))
 refine oL _ _ _ ?_
 refine cg ?_
 refine bq _ _ _ ?_
 refine hY (i + 1) (by omega) (by repeat' first|exact rfl|constructor|(refine dL ?_;rw [Ph (k:=k) hx (by omega)];done))
 refine bq _ _ _ ?_
 exact (by rw [Pj (h:=h) (i:=i) (by omega)];rfl)
theorem Pm (h:ap) [Q (aj h)]:aF Tryz.prog 25 [A (aq h)] (RG [.a (aq (L2 h))]):=by
 refine aF.w 42 Tryz.func25 fun w g0 hM=> ?_
 have eW:=hM.1.2.1.map
 refine an (aY h).k ?_
 refine len ?_
 refine ck [2,3,11] [] [3] (fun (i:Nat)=>[.set 12 (I i)]) (fun (i:Nat)=>[(3,⟨true,[.own (.sl 1 (h.au.map aP)), .own (.sl 9 ((oY h i).map bA)), .own (.sl 4 (h.Buffer.map aC)), .own (.sl 4 (h.aD.map aC))]⟩)]) (fun (i:Nat)=>i ≤ h.ai.length) (fun (i:Nat)=>h.ai.length - i) (0) (bG _) ?_
 refine ⟨hda,fun i hyp N1 bq=> ?_⟩
 have hyp:i ≤ h.ai.length:=hyp
 have S8:(oY h i).length=h.ai.length:=zl
 have hml:=(inferInstance:cX h.ai 1048576).h
 refine aB ?_ ?_ <;> intro hb
 obtain ⟨x,hx⟩:∃ x,h.ai[i]? = some x:=⟨_,bg (by omega)⟩
 have hxl:=(aM.1 hx).1
 have hxm:=yp (f:=GI) hx
 have qx:Q (bt x):=⟨jW.h x (aH hx)⟩
 have p_:=(inferInstance:cX x.Tables 1048576).h
 refine di ?_
 refine aL ‹_› ?_
 refine aL ‹_› ?_
 refine len ?_
 refine ck [2,3,4,11,12,20,21] [] [3] (fun (k:Nat)=>[.set 22 (I k)]) (fun (k:Nat)=>[(3,⟨true,[.own (.sl 1 (h.au.map aP)), .own (.sl 9 (((oY h i).set i (eo x k)).map bA)), .own (.sl 4 (h.Buffer.map aC)), .own (.sl 4 (h.aD.map aC))]⟩)]) (fun (k:Nat)=>k ≤ x.Tables.length) (fun (k:Nat)=>x.Tables.length - k) (0) (bG _) ?_
 refine ⟨(hda (by repeat' first|exact rfl|constructor|(refine dL ?_;rw [SL hx];done))),fun k fq N2 oL=> ?_⟩
 have fq:k ≤ x.Tables.length:=fq
 have hxs:((oY h i).set i (eo x k))[i]? = some (eo x k):=dS hxm
 have hxk:(eo x k).Tables.length=x.Tables.length:=zl
 have PC:=(aM.1 hxs).1
 have hsl2:i < (((oY h i).set i (eo x k)).map bA).length:=by rw [aI];exact PC
 have QR:((eo x k).Tables.map cz).length=x.Tables.length:=by rw [aI];exact hxk
 refine aB ?_ ?_ <;> intro iz
 obtain ⟨t,ht⟩:∃ t,x.Tables[k]? = some t:=⟨_,bg (by omega)⟩
 have htm:(eo x k).Tables[k]? = some t:=yp (f:=iQ) ht
 have qt:Q (dR t):=⟨jW.h t (aH ht)⟩
 have JO:=(aM.1 htm).1
 refine aL ‹_› ?_
 refine di ?_
 refine aL ‹_› ?_
 refine aL ‹_› ?_
 refine cI [10] [(0,0),(1,0),(2,0),(3,0),(4,0),(5,0),(6,0),(7,0),(8,1),(9,0),(10,1)] ?_
 refine di ?_
 refine aL ‹_› ?_
 refine an (Dd t).k ?_
 refine aL ‹_› ?_
 refine di ?_
 refine aL ‹_› ?_
 refine aL ‹_› ?_
 refine cg ?_
 refine oL _ _ _ ?_
 refine hY (k + 1) (by omega) (by repeat' first|exact rfl|constructor|(refine dL ?_;rw [Ld hx ht];done))
 refine oL _ _ _ ?_
 refine cg ?_
 refine bq _ _ _ ?_
 refine hY (i + 1) (by omega) (by repeat' first|exact rfl|constructor|(refine dL ?_;rw [Ph (k:=k) hx (by omega)];done))
 refine bq _ _ _ ?_
 exact (by rw [Pj (h:=h) (i:=i) (by omega)];rfl)
end
section
variable {m p v:Int} {g:Nat} {a:dF} {u:ax} {h:ap}
theorem Xr:bt V9:=⟨by simp [eM],⟨by simp,fun x hx=>by cases hx⟩,by simp [ou],⟨by simp,fun x hx=>by cases hx⟩,by simp [dP],⟨by simp,fun x hx=>by cases hx⟩⟩
theorem IB {m:Nat} (hh:aj h):bt (cK h m):=by
 unfold cK
 cases e:h.ai[m]? with
 | none=>exact Xr
 | some x=>exact hh.2.1.2 x (aH e)
theorem Rb {m:Nat} (hh:aj h):aJ (dB h m g):=by
 unfold dB
 cases e:(cK h m).aa[g]? with
 | none=>exact HU
 | some x=>exact (IB hh).2.2.2.1.2 x (aH e)
theorem SM {l:List ax} (hl:ki l) (hu:aJ u):ki (l.set g u):=⟨by rw [bD];exact hl.1,fun x hx=>by
 rcases lN hx with hx|rfl
 exact hl.2 x hx
 exact hu⟩
theorem od {m:Nat} (hh:aj h) (hu:aJ u):aj (iH h m g u):=by
 have hx:=IB (m:=m) hh
 exact nI hh ⟨hx.1,hx.2.1,hx.2.2.1,SM hx.2.2.2.1 hu,hx.2.2.2.2.1,hx.2.2.2.2.2⟩
theorem IC {m:Nat} {w:Bool} (hh:aj h) (hu:aJ u):aj (ie h m g u w):=by
 unfold ie
 cases e:find h m g (bz (address u)) (cA w) false with
 | none=>exact od hh hu
 | some q=>
  have h1:=FM hh q e
  obtain ⟨h2,p⟩:=q
  simp only
  split
  exact od ⟨Cj h1.1,h1.2⟩ hu
  exact od h1 (T8 hu)
theorem ZC {x:aV} {w:Int} (hx:bt x) (hu:aJ u):bt (qZ x g u w):=by
 have key:∀ {y:aV} {v:ax},bt y→aJ v→bt { y with aa:=y.aa.set g v }:=fun {y v} hy hv=>⟨hy.1,hy.2.1,hy.2.2.1,SM hy.2.2.2.1 hv,hy.2.2.2.2.1,hy.2.2.2.2.2⟩
 by_cases h1:jU x u w=1
 rw [SA h1]
 exact key hx (Ie hu)
 by_cases h2:w=7
 rw [MJ h1 h2]
 exact key (Cg hx) hu
 rw [Q3 h1 h2]
 exact key (H8 (Cg hx)) hu
theorem Xs {m:Nat} (hh:aj h) (hu:aJ u):aj (iM h m g u):=by
 have qu:Q (aJ u):=⟨hu⟩
 unfold iM
 repeat' split
 ·exact od hh (inferInstance:Q (aJ (interrupted u))).h
 ·exact od hh (inferInstance:Q (aJ (ir u))).h
 ·exact IC hh hu
 ·exact IC hh hu
 ·exact od hh hu
 ·exact nI hh (ZC (IB hh) hu)
theorem D_ {g:Int} (hh:aj h):aj ((cn h m g).getD h):=by
 unfold cn
 repeat' split
 ·exact hh
 ·exact Xs hh (Rb hh)
 ·exact hh
theorem kx {F:aS→Option aS} (hh:aj h) (hS:∀ b,a_ b→a_ ((F b).getD b)):aj ((bC h m F).getD h):=by
 cases hm:dI h m with
 | false=>rw [Ci hm];exact hh
 | true=>
  rw [ul hm]
  exact SD hh (cO (fN hm).2) (hS _ (gY (IB hh)))
theorem Cw {g:Int} (hh:aj h):aj ((dx h m g p).getD h):=by
 cases ho:(bC h m (FO g p)).isSome with
 | false=>rw [zk ho];exact hh
 | true=>
  obtain ⟨x,k,hf⟩:=Ra hh ho
  rw [vY ho hf]
  have h1:=hf.sm
  have hx:=h1.2.1.2 x (aH hf.hx)
  have hk:=hx.2.2.2.2.2.2 k (aH hf.hk)
  have h2:=nI (m:=m.toNat) h1 (y:=Cq x g.toNat (forget k p)) ⟨hx.1,hx.2.1,hx.2.2.1,hx.2.2.2.1,hx.2.2.2.2.1,⟨by show (x.Tables.set _ _).length ≤ _;rw [bD];exact hx.2.2.2.2.2.1,fun c hc=>by
   rcases lN hc with hc|rfl
   exact hx.2.2.2.2.2.2 c hc
   unfold forget
   split
   exact ⟨by show (put _ _ _).length ≤ _;rw [pV];exact hk.1,by show (put _ _ _).length ≤ _;rw [pV];exact hk.2⟩
   exact hk⟩⟩
  exact ⟨h2.1,h2.2.1,eP (List.length_filter_le _ _) h1.2.2.1,eP (List.length_filter_le _ _) h1.2.2.2⟩
theorem Ea {c:Int} (hh:aj h):aj ((jG h m p c v).getD h):=by
 by_cases ho:ee h m p=true∧(0 ≤ c∧c ≤ 3)∧0 ≤ v∧v ≤ 99
 obtain ⟨x,z,x2,z2,hk⟩:=MY hh ho.1
 rw [Dv ho hk]
 exact ⟨Cj hk.Pv.1.1,hk.Pv.1.2⟩
 rw [yo ho];exact hh
theorem ID (hh:aj h):aj (((dW h m).map fun q=>q.1).getD h):=by
 rw [Lb]
 exact kx hh fun b hb=>MZ hb
theorem IE {g a:Int} (hh:aj h):aj ((kP h m g a v).getD h):=by
 unfold kP
 split
 cases e:find h m g (bz a) 2 true with
 | none=>exact hh
 | some q=>
  have h1:=FM hh q e
  exact ⟨Cj h1.1,h1.2⟩
 exact hh
theorem Eb {g a:Int} (hh:aj h):aj (((gl h m g a).map fun q=>q.1).getD h):=by
 unfold gl
 split
 cases e:find h m g (bz a) 1 true with
 | none=>exact hh
 | some q=>exact FM hh q e
 exact hh
theorem Le (hh:aj h):aj ((m4 h m p).getD h):=by
 cases hp:ee h m p with
 | false=>rw [Df hp];exact hh
 | true=>
  obtain ⟨x,z,x2,z2,hk⟩:=MY hh hp
  by_cases h1:z.aN= -1
  rw [A0 hp hk.hx hk.hz h1]
  exact (u0 hk.hs hk.ha hk.hx hk.hz h1).1
  rw [AZ hk.hx hk.hz h1];exact hh
theorem Ec {t:Int} (hh:aj h):aj ((jd h m t).getD h):=by
 unfold jd
 split
 exact nI hh (IB (m:=m.toNat) hh)
 exact hh
theorem SN (hh:aj h):aj (L2 h):=by
 refine ⟨hh.1,⟨by show (h.ai.map GI).length ≤ _;rw [aI];exact hh.2.1.1,fun x hx=> ?_⟩,by show (0:Nat) ≤ _;decide,by show (0:Nat) ≤ _;decide⟩
 obtain ⟨y,hy,rfl⟩:=j7.1 hx
 have h1:=hh.2.1.2 y hy
 refine ⟨h1.1,h1.2.1,h1.2.2.1,h1.2.2.2.1,h1.2.2.2.2.1,⟨by show (y.Tables.map iQ).length ≤ _;rw [aI];exact h1.2.2.2.2.2.1,fun c hc=> ?_⟩⟩
 obtain ⟨k,hk,rfl⟩:=j7.1 hc
 exact yX _ (h1.2.2.2.2.2.2 k hk)
theorem IF {x:ap} {n:Int} {q:Option (ap×Int)}:L3 x n q=((q.map fun p=>p.1).getD x,⟨q.isSome,(q.map fun p=>p.2).getD n⟩):=by cases q <;> rfl
theorem ZD (hk:a.Kind=1):aW h a=gE h (cn h a.M a.G):=by unfold aW;rw [if_pos hk]
theorem ZE (hk:a.Kind=2):aW h a=gE h (bC h a.M fun b=>eN b a.G a.X ⟨a.Y,a.Z⟩):=by unfold aW;rw [if_neg (by omega),if_pos hk]
theorem ZF (hk:a.Kind=3):aW h a=gE h (dx h a.M a.G a.X):=by unfold aW;rw [if_neg (by omega),if_neg (by omega),if_pos hk]
theorem ZG (hk:a.Kind=4):aW h a=gE h (bC h a.M fun b=>cr b a.G a.X):=by unfold aW;rw [if_neg (by omega),if_neg (by omega),if_neg (by omega),if_pos hk]
theorem ZH (hk:a.Kind=5):aW h a=gE h (bC h a.M fun b=>ct b a.G):=by unfold aW;rw [if_neg (by omega),if_neg (by omega),if_neg (by omega),if_neg (by omega),if_pos hk]
theorem ZI (hk:a.Kind=6):aW h a=gE h (bC h a.M fun b=>b7 b a.G a.X):=by unfold aW;rw [if_neg (by omega),if_neg (by omega),if_neg (by omega),if_neg (by omega),if_neg (by omega),if_pos hk]
theorem ZJ (hk:a.Kind=7):aW h a=gE h (bC h a.M fun b=>eO b a.G (DY a)):=by unfold aW;rw [if_neg (by omega),if_neg (by omega),if_neg (by omega),if_neg (by omega),if_neg (by omega),if_neg (by omega),if_pos hk]
theorem ZK (hk:a.Kind=8):aW h a=gE h (jG h a.M a.X a.Y a.Z):=by unfold aW;rw [if_neg (by omega),if_neg (by omega),if_neg (by omega),if_neg (by omega),if_neg (by omega),if_neg (by omega),if_neg (by omega),if_pos hk]
theorem ZL (hk:a.Kind=9):aW h a=gE h (bC h a.M fun b=>cL b a.X):=by unfold aW;rw [if_neg (by omega),if_neg (by omega),if_neg (by omega),if_neg (by omega),if_neg (by omega),if_neg (by omega),if_neg (by omega),if_neg (by omega),if_pos hk]
theorem SO (hk:a.Kind=10):aW h a=(((dW h a.M).map fun p=>p.1).getD h,⟨(dW h a.M).isSome,((dW h a.M).map fun p=>p.2).getD (-1)⟩):=by unfold aW;rw [if_neg (by omega),if_neg (by omega),if_neg (by omega),if_neg (by omega),if_neg (by omega),if_neg (by omega),if_neg (by omega),if_neg (by omega),if_neg (by omega),if_pos hk,IF]
theorem SP (hk:a.Kind=11):aW h a=gE h (kP h a.M a.G a.X a.Y):=by unfold aW;rw [if_neg (by omega),if_neg (by omega),if_neg (by omega),if_neg (by omega),if_neg (by omega),if_neg (by omega),if_neg (by omega),if_neg (by omega),if_neg (by omega),if_neg (by omega),if_pos hk]
theorem SQ (hk:a.Kind=12):aW h a=(((gl h a.M a.G a.X).map fun p=>p.1).getD h,⟨(gl h a.M a.G a.X).isSome,((gl h a.M a.G a.X).map fun p=>p.2).getD 0⟩):=by unfold aW;rw [if_neg (by omega),if_neg (by omega),if_neg (by omega),if_neg (by omega),if_neg (by omega),if_neg (by omega),if_neg (by omega),if_neg (by omega),if_neg (by omega),if_neg (by omega),if_neg (by omega),if_pos hk,IF]
theorem SR (hk:a.Kind=13):aW h a=gE h (jj h a.M a.X):=by unfold aW;rw [if_neg (by omega),if_neg (by omega),if_neg (by omega),if_neg (by omega),if_neg (by omega),if_neg (by omega),if_neg (by omega),if_neg (by omega),if_neg (by omega),if_neg (by omega),if_neg (by omega),if_neg (by omega),if_pos hk]
theorem SS (hk:a.Kind=14):aW h a=gE h (m4 h a.M a.X):=by unfold aW;rw [if_neg (by omega),if_neg (by omega),if_neg (by omega),if_neg (by omega),if_neg (by omega),if_neg (by omega),if_neg (by omega),if_neg (by omega),if_neg (by omega),if_neg (by omega),if_neg (by omega),if_neg (by omega),if_neg (by omega),if_pos hk]
theorem SU (hk:a.Kind=15):aW h a=gE h (guard h a.M a.X):=by unfold aW;rw [if_neg (by omega),if_neg (by omega),if_neg (by omega),if_neg (by omega),if_neg (by omega),if_neg (by omega),if_neg (by omega),if_neg (by omega),if_neg (by omega),if_neg (by omega),if_neg (by omega),if_neg (by omega),if_neg (by omega),if_neg (by omega),if_pos hk]
theorem SV (hk:a.Kind=16):aW h a=gE h (jd h a.M a.X):=by unfold aW;rw [if_neg (by omega),if_neg (by omega),if_neg (by omega),if_neg (by omega),if_neg (by omega),if_neg (by omega),if_neg (by omega),if_neg (by omega),if_neg (by omega),if_neg (by omega),if_neg (by omega),if_neg (by omega),if_neg (by omega),if_neg (by omega),if_neg (by omega),if_pos hk]
theorem SW (hk:a.Kind=17):aW h a=(L2 h,⟨true,0⟩):=by unfold aW;rw [if_neg (by omega),if_neg (by omega),if_neg (by omega),if_neg (by omega),if_neg (by omega),if_neg (by omega),if_neg (by omega),if_neg (by omega),if_neg (by omega),if_neg (by omega),if_neg (by omega),if_neg (by omega),if_neg (by omega),if_neg (by omega),if_neg (by omega),if_neg (by omega),if_pos hk]
theorem ZM (hk:¬ (1 ≤ a.Kind∧a.Kind ≤ 17)):aW h a=(h,⟨false,0⟩):=by unfold aW;rw [if_neg (by omega),if_neg (by omega),if_neg (by omega),if_neg (by omega),if_neg (by omega),if_neg (by omega),if_neg (by omega),if_neg (by omega),if_neg (by omega),if_neg (by omega),if_neg (by omega),if_neg (by omega),if_neg (by omega),if_neg (by omega),if_neg (by omega),if_neg (by omega),if_neg (by omega)]
theorem Rc (hh:aj h):aj (aW h a).1:=by
 by_cases hk:1 ≤ a.Kind∧a.Kind ≤ 17
 have hc:a.Kind=1 ∨ a.Kind=2 ∨ a.Kind=3 ∨ a.Kind=4 ∨ a.Kind=5 ∨ a.Kind=6 ∨ a.Kind=7 ∨ a.Kind=8 ∨ a.Kind=9 ∨ a.Kind=10 ∨ a.Kind=11 ∨ a.Kind=12 ∨ a.Kind=13 ∨ a.Kind=14 ∨ a.Kind=15 ∨ a.Kind=16 ∨ a.Kind=17:=by omega
 rcases hc with e|e|e|e|e|e|e|e|e|e|e|e|e|e|e|e|e
 rw [ZD e];exact D_ hh
 rw [ZE e];exact kx hh fun b hb=>eG hb (MQ hb)
 rw [ZF e];exact Cw hh
 rw [ZG e];exact kx hh fun b hb=>eG hb (zb hb)
 rw [ZH e];exact kx hh fun b hb=>eG hb (zc hb)
 rw [ZI e];exact kx hh fun b hb=>eG hb (ze hb)
 rw [ZJ e];exact kx hh fun b hb=>eG hb (MR hb)
 rw [ZK e];exact Ea hh
 rw [ZL e];exact kx hh fun b hb=>eG hb (FI hb)
 rw [SO e];exact ID hh
 rw [SP e];exact IE hh
 rw [SQ e];exact Eb hh
 rw [SR e];exact Hp hh
 rw [SS e];exact Le hh
 rw [SU e];exact OL hh
 rw [SV e];exact Ec hh
 rw [SW e];exact SN hh
 rw [ZM hk];exact hh
end
set_option maxRecDepth 100000
set_option maxHeartbeats 8000000
theorem yq (h:ap) (a:dF) [Q (aj h)] [hax:Q (a.X ≤ 9223372036854775807)]:aF Tryz.prog 74 [A (aq h),A (CY a)] (RG [.a (aq (aW h a).1), .a (GF (aW h a).2)]):=by
 refine aF.w 222 Tryz.func74 fun w g0 _=> ?_
 refine aB ?_ ?_ <;> intro hb
 ·have hh:=(by assumption:Q (aj h)).h
  have qr:Q (aj ((cn h a.M a.G).getD h)):=⟨D_ hh⟩
  refine an (EV h a.M a.G).k ?_
  refine an (aY ((cn h a.M a.G).getD h)).k ?_
  exact (by rw [ZD ‹_›];rfl)
 ·refine aB ?_ ?_ <;> intro iz
  ·have hh:=(by assumption:Q (aj h)).h
   have qr:Q (aj ((bC h a.M fun b=>eN b a.G a.X ⟨a.Y,a.Z⟩).getD h)):=⟨kx hh fun b hb=>eG hb (MQ hb)⟩
   refine an (Ik h a.M a.G a.X ⟨a.Y,a.Z⟩).k ?_
   refine an (aY ((bC h a.M fun b=>eN b a.G a.X ⟨a.Y,a.Z⟩).getD h)).k ?_
   exact (by rw [ZE ‹_›];rfl)
  ·refine aB ?_ ?_ <;> intro tr
   ·have hh:=(by assumption:Q (aj h)).h
    have qr:Q (aj ((dx h a.M a.G a.X).getD h)):=⟨Cw hh⟩
    refine an (Dw h a.M a.G a.X).k ?_
    refine an (aY ((dx h a.M a.G a.X).getD h)).k ?_
    exact (by rw [ZF ‹_›];rfl)
   ·refine aB ?_ ?_ <;> intro AJ
    ·have hh:=(by assumption:Q (aj h)).h
     have qr:Q (aj ((bC h a.M fun b=>cr b a.G a.X).getD h)):=⟨kx hh fun b hb=>eG hb (zb hb)⟩
     refine an (Ck h a.M a.G a.X).k ?_
     refine an (aY ((bC h a.M fun b=>cr b a.G a.X).getD h)).k ?_
     exact (by rw [ZG ‹_›];rfl)
    ·refine aB ?_ ?_ <;> intro D0
     ·have hh:=(by assumption:Q (aj h)).h
      have qr:Q (aj ((bC h a.M fun b=>ct b a.G).getD h)):=⟨kx hh fun b hb=>eG hb (zc hb)⟩
      refine an (Cm h a.M a.G).k ?_
      refine an (aY ((bC h a.M fun b=>ct b a.G).getD h)).k ?_
      exact (by rw [ZH ‹_›];rfl)
     ·refine aB ?_ ?_ <;> intro Pz
      ·have hh:=(by assumption:Q (aj h)).h
       have qr:Q (aj ((bC h a.M fun b=>b7 b a.G a.X).getD h)):=⟨kx hh fun b hb=>eG hb (ze hb)⟩
       refine an (Co h a.M a.G a.X).k ?_
       refine an (aY ((bC h a.M fun b=>b7 b a.G a.X).getD h)).k ?_
       exact (by rw [ZI ‹_›];rfl)
      ·refine aB ?_ ?_ <;> intro TD
       ·have hh:=(by assumption:Q (aj h)).h
        have qr:Q (aj ((bC h a.M fun b=>eO b a.G (DY a)).getD h)):=⟨kx hh fun b hb=>eG hb (MR hb)⟩
        refine gp [11] [11] [] (.quiet 0 0 (.quiet 1 0 (.quiet 2 0 (.quiet 3 0 (.quiet 4 0 (.quiet 5 0 (.fa 6 (.fa 7 (.quiet 8 1 (.quiet 9 1 (.quiet 10 1 (.fa 11 (.quiet 12 1 .done))))))))))))) ?_
        repeat' first|exact True.intro|refine And.intro ?_ ?_|(intro _ _)|refine ah (MP a).k ?_|refine an (Im h a.M a.G (DY a)).k ?_
        refine an (aY ((bC h a.M fun b=>eO b a.G (DY a)).getD h)).k ?_
        exact (by rw [ZJ ‹_›];rfl)
       ·refine aB ?_ ?_ <;> intro YT
        ·have hh:=(by assumption:Q (aj h)).h
         have qr:Q (aj ((jG h a.M a.X a.Y a.Z).getD h)):=⟨Ea hh⟩
         refine an (EW h a.M a.X a.Y a.Z).k ?_
         refine an (aY ((jG h a.M a.X a.Y a.Z).getD h)).k ?_
         exact (by rw [ZK ‹_›];rfl)
        ·refine aB ?_ ?_ <;> intro hb9
         ·have hh:=(by assumption:Q (aj h)).h
          have qr:Q (aj ((bC h a.M fun b=>cL b a.X).getD h)):=⟨kx hh fun b hb=>eG hb (FI hb)⟩
          refine an (EP h a.M a.X).k ?_
          refine an (aY ((bC h a.M fun b=>cL b a.X).getD h)).k ?_
          exact (by rw [ZL ‹_›];rfl)
         ·refine aB ?_ ?_ <;> intro We
          ·have hh:=(by assumption:Q (aj h)).h
           have qr:Q (aj (((dW h a.M).map fun p=>p.1).getD h)):=⟨ID hh⟩
           refine an (Iy h a.M).k ?_
           refine an (aY (((dW h a.M).map fun p=>p.1).getD h)).k ?_
           exact (by rw [SO ‹_›];rfl)
          ·refine aB ?_ ?_ <;> intro Wf
           ·have hh:=(by assumption:Q (aj h)).h
            have qr:Q (aj ((kP h a.M a.G a.X a.Y).getD h)):=⟨IE hh⟩
            refine an (It h a.M a.G a.X a.Y).k ?_
            refine an (aY ((kP h a.M a.G a.X a.Y).getD h)).k ?_
            exact (by rw [SP ‹_›];rfl)
           ·refine aB ?_ ?_ <;> intro Wg
            ·have hh:=(by assumption:Q (aj h)).h
             have qr:Q (aj (((gl h a.M a.G a.X).map fun p=>p.1).getD h)):=⟨Eb hh⟩
             refine an (ET h a.M a.G a.X).k ?_
             refine an (aY (((gl h a.M a.G a.X).map fun p=>p.1).getD h)).k ?_
             exact (by rw [SQ ‹_›];rfl)
            ·refine aB ?_ ?_ <;> intro YU
             ·have hh:=(by assumption:Q (aj h)).h
              have qr:Q (aj ((jj h a.M a.X).getD h)):=⟨Hp hh⟩
              refine an (Hi h a.M a.X).k ?_
              refine an (aY ((jj h a.M a.X).getD h)).k ?_
              exact (by rw [SR ‹_›];rfl)
             ·refine aB ?_ ?_ <;> intro hb14
              ·have hh:=(by assumption:Q (aj h)).h
               have qr:Q (aj ((m4 h a.M a.X).getD h)):=⟨Le hh⟩
               refine an (Jx h a.M a.X).k ?_
               refine an (aY ((m4 h a.M a.X).getD h)).k ?_
               exact (by rw [SS ‹_›];rfl)
              ·refine aB ?_ ?_ <;> intro hb15
               ·have hh:=(by assumption:Q (aj h)).h
                have qr:Q (aj ((guard h a.M a.X).getD h)):=⟨OL hh⟩
                refine an (Mj h a.M a.X).k ?_
                refine an (aY ((guard h a.M a.X).getD h)).k ?_
                exact (by rw [SU ‹_›];rfl)
               ·refine aB ?_ ?_ <;> intro hb16
                ·have hh:=(by assumption:Q (aj h)).h
                 have qr:Q (aj ((jd h a.M a.X).getD h)):=⟨Ec hh⟩
                 refine an (ES h a.M a.X).k ?_
                 refine an (aY ((jd h a.M a.X).getD h)).k ?_
                 exact (by rw [SV ‹_›];rfl)
                ·refine aB ?_ ?_ <;> intro hb17
                 ·have hh:=(by assumption:Q (aj h)).h
                  have qr:Q (aj (L2 h)):=⟨SN hh⟩
                  refine an (Pm h).k ?_
                  refine an (aY (L2 h)).k ?_
                  exact (by rw [SW ‹_›];rfl)
                 ·refine an (aY h).k ?_
                  exact (by rw [ZM (by omega)];rfl)
end Go.Proofs.YtdliggkohdnipaaGreat.T
