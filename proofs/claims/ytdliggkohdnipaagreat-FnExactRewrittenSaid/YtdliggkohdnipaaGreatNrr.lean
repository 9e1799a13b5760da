import Derived.Test.YtdliggkohdnipaaGreatRvr
import Derived.Test.YtdliggkohdnipaaGreatPir
import Derived.Test.YtdliggkohdnipaaGreatQir
import Derived.Test.YtdliggkohdnipaaGreatQfr
import Derived.Test.YtdliggkohdnipaaGreatQer
import Derived.Test.YtdliggkohdnipaaGreatNsr
import Derived.Test.YtdliggkohdnipaaGreatHbr
import Derived.Test.YtdliggkohdnipaaGreatHdr
import Derived.Test.YtdliggkohdnipaaGreatHer
import Derived.Test.YtdliggkohdnipaaGreatRpr
set_option linter.unusedVariables false
set_option linter.unusedSimpArgs false
namespace Go.Proofs.YtdliggkohdnipaaGreat.T
open Go
section
variable {i k:Nat} {h:an} {x:aO}
set_option maxRecDepth 100000
set_option maxHeartbeats 8000000
def u0 {α:Type} (f: α→ α) (l:List α) (i:Nat):List α:=(l.take i).map f ++ l.drop i
section
variable {α:Type} {f: α→ α} {l:List α} {i:Nat} {x: α}
theorem wz (h:l[i]? = some x):(u0 f l i)[i]? = some x:=by
 have hi:=(List.getElem?_eq_some_iff.1 h).1
 unfold u0
 rw [List.getElem?_append_right (by simp;omega)]
 simp only [List.length_map,List.length_take,Nat.min_eq_left (Nat.le_of_lt hi),Nat.sub_self,List.getElem?_drop,Nat.add_zero]
 exact h
theorem GJ (h:l[i]? = some x):u0 f l (i + 1)=(u0 f l i).set i (f x):=by
 obtain ⟨hi,he⟩:=List.getElem?_eq_some_iff.1 h
 have hd:l.drop i=x :: l.drop (i + 1):=by rw [List.drop_eq_getElem_cons hi,he]
 unfold u0
 rw [hd,List.take_add_one,h,List.map_append,List.set_append_right _ _ (by simp;omega)]
 simp only [List.length_map,List.length_take,Nat.min_eq_left (Nat.le_of_lt hi),Nat.sub_self,List.set_cons_zero,List.append_assoc]
 rfl
theorem Jx (h:l.length ≤ i):u0 f l i=l.map f:=by
 unfold u0
 rw [List.take_of_length_le h,List.drop_of_length_le h,List.append_nil]
theorem xE:(u0 f l i).length=l.length:=by
 unfold u0
 simp only [List.length_append,List.length_map,List.length_take,List.length_drop]
 omega
theorem set_is (h:l[i]? = some x):l.set i x=l:=by
 apply List.ext_getElem?
 intro j
 rw [List.getElem?_set]
 by_cases hj:i=j
 subst hj
 rw [if_pos rfl,if_pos (List.getElem?_eq_some_iff.1 h).1,h]
 rw [if_neg hj]
end
def dJ (x:aO) (k:Nat):aO:={ x with Tables:=u0 h_ x.Tables k }
abbrev nG (h:an) (i:Nat):List aO:=u0 E5 h.ap i
theorem Ra (hx:h.ap[i]? = some x):(nG h i).set i (dJ x 0)=nG h i:=set_is (wz hx)
theorem NH (hx:h.ap[i]? = some x) (hk:x.Tables.length ≤ k):nG h (i + 1)=(nG h i).set i (dJ x k):=by
 have e:dJ x k=E5 x:=by
  unfold dJ E5
  rw [Jx hk]
 rw [e]
 exact GJ hx
theorem Jy {t:bQ} (hx:h.ap[i]? = some x) (ht:x.Tables[k]? = some t):((nG h i).set i (dJ x (k + 1))).map bh=(((nG h i).set i (dJ x k)).map bh).set i (.st [.sl 2 ((dJ x k).ai.map aQ), .sl 1 ((dJ x k).Out.map aN), .sl 1 ((dJ x k).a_.map bz), .sl 15 ((dJ x k).aa.map aY), .sl 1 ((dJ x k).bX.map bH), .v (.int .i64 (dJ x k).ax), .v (.int .i64 (dJ x k).bq), .sl 2 (((dJ x k).Tables.map bS).set k (.st [.sl 1 ((h_ t).bY.map bz), .sl 2 ((h_ t).c8.map aQ)])), .v (.int .i64 (dJ x k).Own)]):=by
 have e:bh (dJ x (k + 1))= .st [.sl 2 ((dJ x k).ai.map aQ), .sl 1 ((dJ x k).Out.map aN), .sl 1 ((dJ x k).a_.map bz), .sl 15 ((dJ x k).aa.map aY), .sl 1 ((dJ x k).bX.map bH), .v (.int .i64 (dJ x k).ax), .v (.int .i64 (dJ x k).bq), .sl 2 (((dJ x k).Tables.map bS).set k (.st [.sl 1 ((h_ t).bY.map bz), .sl 2 ((h_ t).c8.map aQ)])), .v (.int .i64 (dJ x k).Own)]:=by
  show D.st [_,_,_,_,_,_,_, .sl 2 ((u0 h_ x.Tables (k + 1)).map bS),_]=_
  rw [GJ ht,List.map_set]
  rfl
 rw [List.map_set,List.map_set,List.set_set,e]
theorem NI (hi:h.ap.length ≤ i):Ko h={ h with ap:=nG h i,Buffer:=[],aC:=[] }:=by
 unfold Ko nG
 rw [Jx hi]
theorem NJ (h:an) [Q (aj h)]:aF Tryz.prog 335 [A (aq h)] (RG [.a (aq (Ko h))]):=by
 refine aF.w 48 Tryz.func335 fun w g0 hM=> ?_
 have eK:=hM.1.2.1.map
 refine ak (ct h).k ?_
 refine cI [1,2] [] [1] (fun (i:Nat)=>[.set 3 (I i)]) (fun (i:Nat)=>[(1,⟨true,[.own (.sl 1 (h.au.map aN)), .own (.sl 9 ((nG h i).map bh)), .own (.sl 4 (h.Buffer.map aA)), .own (.sl 4 (h.aC.map aA))]⟩)]) (fun (i:Nat)=>i ≤ h.ap.length) (fun (i:Nat)=>h.ap.length - i) (0) (Nat.zero_le _) ?_
 refine ⟨hda,fun i hyp N1 bw=> ?_⟩
 have hyp:i ≤ h.ap.length:=hyp
 have P0:(nG h i).length=h.ap.length:=xE
 have hml:=(inferInstance:dc h.ap 1048576).h
 refine len ?_
 refine aB ?_ ?_ <;> intro hb
 obtain ⟨x,hx⟩:∃ x,h.ap[i]? = some x:=⟨_,List.getElem?_eq_getElem (by omega)⟩
 have hxl:=(List.getElem?_eq_some_iff.1 hx).1
 have hxm:=wz (f:=E5) hx
 have qx:Q (bf x):=⟨j6.h x (List.mem_of_getElem? hx)⟩
 have ov:=(inferInstance:dc x.Tables 1048576).h
 refine cI [1,2,3] [] [1] (fun (k:Nat)=>[.set 4 (I k)]) (fun (k:Nat)=>[(1,⟨true,[.own (.sl 1 (h.au.map aN)), .own (.sl 9 (((nG h i).set i (dJ x k)).map bh)), .own (.sl 4 (h.Buffer.map aA)), .own (.sl 4 (h.aC.map aA))]⟩)]) (fun (k:Nat)=>k ≤ x.Tables.length) (fun (k:Nat)=>x.Tables.length - k) (0) (Nat.zero_le _) ?_
 refine ⟨(hda (by repeat' first|exact rfl|refine And.intro ?_ ?_|exact True.intro|(refine eV ?_;rw [Ra hx];done))),fun k gb N2 oY=> ?_⟩
 have gb:k ≤ x.Tables.length:=gb
 have hxs:((nG h i).set i (dJ x k))[i]? = some (dJ x k):=dz hxm
 have hxk:(dJ x k).Tables.length=x.Tables.length:=xE
 have N0:=(List.getElem?_eq_some_iff.1 hxs).1
 have hsl2:i < (((nG h i).set i (dJ x k)).map bh).length:=by rw [List.length_map];exact N0
 have Pg:((dJ x k).Tables.map bS).length=x.Tables.length:=by rw [List.length_map];exact hxk
 refine cS ?_
 refine aI (by assumption) ?_
 refine aI (by assumption) ?_
 refine len ?_
 refine aB ?_ ?_ <;> intro gY
 obtain ⟨t,ht⟩:∃ t,x.Tables[k]? = some t:=⟨_,List.getElem?_eq_getElem (by omega)⟩
 have htm:(dJ x k).Tables[k]? = some t:=wz (f:=h_) ht
 have qt:Q (de t):=⟨j6.h t (List.mem_of_getElem? ht)⟩
 have LG:=(List.getElem?_eq_some_iff.1 htm).1
 refine cJ [18] [(0,0),(1,0),(2,0),(3,0),(4,0),(5,0),(6,0),(7,0),(8,0),(9,0),(10,0),(11,0),(12,0),(13,0),(14,0),(15,0),(16,1),(17,0),(18,1)] ?_
 refine cS ?_
 refine aI (by assumption) ?_
 refine cS ?_
 refine aI (by assumption) ?_
 refine aI (by assumption) ?_
 refine cS ?_
 refine aI (by assumption) ?_
 refine aI (by assumption) ?_
 refine ak (BV t).k ?_
 refine aI (by assumption) ?_
 refine cS ?_
 refine aI (by assumption) ?_
 refine aI (by assumption) ?_
 refine cD ?_
 refine oY _ _ _ ?_
 refine iF (k + 1) (by omega) (by repeat' first|exact rfl|refine And.intro ?_ ?_|exact True.intro|(refine eV ?_;rw [Jy hx ht];done))
 refine oY _ _ _ ?_
 refine cD ?_
 refine bw _ _ _ ?_
 refine iF (i + 1) (by omega) (by repeat' first|exact rfl|refine And.intro ?_ ?_|exact True.intro|(refine eV ?_;rw [NH (k:=k) hx (by omega)];done))
 refine bw _ _ _ ?_
 exact (by rw [NI (h:=h) (i:=i) (by omega)];rfl)
theorem NK (h:an) [Q (aj h)]:aF Tryz.prog 25 [A (aq h)] (RG [.a (aq (Ko h))]):=by
 refine aF.w 42 Tryz.func25 fun w g0 hM=> ?_
 have eK:=hM.1.2.1.map
 refine ak (aP h).k ?_
 refine len ?_
 refine cI [2,3,11] [] [3] (fun (i:Nat)=>[.set 12 (I i)]) (fun (i:Nat)=>[(3,⟨true,[.own (.sl 1 (h.au.map aN)), .own (.sl 9 ((nG h i).map bh)), .own (.sl 4 (h.Buffer.map aA)), .own (.sl 4 (h.aC.map aA))]⟩)]) (fun (i:Nat)=>i ≤ h.ap.length) (fun (i:Nat)=>h.ap.length - i) (0) (Nat.zero_le _) ?_
 refine ⟨hda,fun i hyp N1 bw=> ?_⟩
 have hyp:i ≤ h.ap.length:=hyp
 have P0:(nG h i).length=h.ap.length:=xE
 have hml:=(inferInstance:dc h.ap 1048576).h
 refine aB ?_ ?_ <;> intro hb
 obtain ⟨x,hx⟩:∃ x,h.ap[i]? = some x:=⟨_,List.getElem?_eq_getElem (by omega)⟩
 have hxl:=(List.getElem?_eq_some_iff.1 hx).1
 have hxm:=wz (f:=E5) hx
 have qx:Q (bf x):=⟨j6.h x (List.mem_of_getElem? hx)⟩
 have ov:=(inferInstance:dc x.Tables 1048576).h
 refine cS ?_
 refine aI (by assumption) ?_
 refine aI (by assumption) ?_
 refine len ?_
 refine cI [2,3,4,11,12,20,21] [] [3] (fun (k:Nat)=>[.set 22 (I k)]) (fun (k:Nat)=>[(3,⟨true,[.own (.sl 1 (h.au.map aN)), .own (.sl 9 (((nG h i).set i (dJ x k)).map bh)), .own (.sl 4 (h.Buffer.map aA)), .own (.sl 4 (h.aC.map aA))]⟩)]) (fun (k:Nat)=>k ≤ x.Tables.length) (fun (k:Nat)=>x.Tables.length - k) (0) (Nat.zero_le _) ?_
 refine ⟨(hda (by repeat' first|exact rfl|refine And.intro ?_ ?_|exact True.intro|(refine eV ?_;rw [Ra hx];done))),fun k gb N2 oY=> ?_⟩
 have gb:k ≤ x.Tables.length:=gb
 have hxs:((nG h i).set i (dJ x k))[i]? = some (dJ x k):=dz hxm
 have hxk:(dJ x k).Tables.length=x.Tables.length:=xE
 have N0:=(List.getElem?_eq_some_iff.1 hxs).1
 have hsl2:i < (((nG h i).set i (dJ x k)).map bh).length:=by rw [List.length_map];exact N0
 have Pg:((dJ x k).Tables.map bS).length=x.Tables.length:=by rw [List.length_map];exact hxk
 refine aB ?_ ?_ <;> intro gY
 obtain ⟨t,ht⟩:∃ t,x.Tables[k]? = some t:=⟨_,List.getElem?_eq_getElem (by omega)⟩
 have htm:(dJ x k).Tables[k]? = some t:=wz (f:=h_) ht
 have qt:Q (de t):=⟨j6.h t (List.mem_of_getElem? ht)⟩
 have LG:=(List.getElem?_eq_some_iff.1 htm).1
 refine aI (by assumption) ?_
 refine cS ?_
 refine aI (by assumption) ?_
 refine aI (by assumption) ?_
 refine cJ [10] [(0,0),(1,0),(2,0),(3,0),(4,0),(5,0),(6,0),(7,0),(8,1),(9,0),(10,1)] ?_
 refine cS ?_
 refine aI (by assumption) ?_
 refine ak (BW t).k ?_
 refine aI (by assumption) ?_
 refine cS ?_
 refine aI (by assumption) ?_
 refine aI (by assumption) ?_
 refine cD ?_
 refine oY _ _ _ ?_
 refine iF (k + 1) (by omega) (by repeat' first|exact rfl|refine And.intro ?_ ?_|exact True.intro|(refine eV ?_;rw [Jy hx ht];done))
 refine oY _ _ _ ?_
 refine cD ?_
 refine bw _ _ _ ?_
 refine iF (i + 1) (by omega) (by repeat' first|exact rfl|refine And.intro ?_ ?_|exact True.intro|(refine eV ?_;rw [NH (k:=k) hx (by omega)];done))
 refine bw _ _ _ ?_
 exact (by rw [NI (h:=h) (i:=i) (by omega)];rfl)
end
section
variable {m p v:Int} {g:Nat} {a:gn} {u:av} {h:an}
theorem Vz:bf Uo:=⟨by simp [dZ],⟨by simp,fun x hx=>by cases hx⟩,by simp [m4],⟨by simp,fun x hx=>by cases hx⟩,by simp [c4],⟨by simp,fun x hx=>by cases hx⟩⟩
theorem GK {m:Nat} (hh:aj h):bf (cE h m):=by
 unfold cE
 cases e:h.ap[m]? with
 | none=>exact Vz
 | some x=>exact hh.2.1.2 x (List.mem_of_getElem? e)
theorem PC {m:Nat} (hh:aj h):aG (c9 h m g):=by
 unfold c9
 cases e:(cE h m).aa[g]? with
 | none=>exact Ga
 | some x=>exact (GK hh).2.2.2.1.2 x (List.mem_of_getElem? e)
theorem Rb {l:List av} (hl:ju l) (hu:aG u):ju (l.set g u):=⟨by rw [List.length_set];exact hl.1,fun x hx=>by
 rcases List.mem_or_eq_of_mem_set hx with hx|rfl
 exact hl.2 x hx
 exact hu⟩
theorem mQ {m:Nat} (hh:aj h) (hu:aG u):aj (iV h m g u):=by
 have hx:=GK (m:=m) hh
 exact mj hh ⟨hx.1,hx.2.1,hx.2.2.1,Rb hx.2.2.2.1 hu,hx.2.2.2.2.1,hx.2.2.2.2.2⟩
theorem GL {m:Nat} {w:Bool} (hh:aj h) (hu:aG u):aj (ix h m g u w):=by
 unfold ix
 cases e:find h m g (bl (address u)) (cu w) false with
 | none=>exact mQ hh hu
 | some q=>
  have h1:=Ed hh q e
  obtain ⟨h2,p⟩:=q
  simp only
  split
  exact mQ ⟨A1 h1.1,h1.2⟩ hu
  exact mQ h1 (Se hu)
theorem XT {x:aO} {w:Int} (hx:bf x) (hu:aG u):bf (o8 x g u w):=by
 have key:∀ {y:aO} {v:av},bf y→aG v→bf { y with aa:=y.aa.set g v }:=fun {y v} hy hv=>⟨hy.1,hy.2.1,hy.2.2.1,Rb hy.2.2.2.1 hv,hy.2.2.2.2.1,hy.2.2.2.2.2⟩
 by_cases h1:jd x u w=1
 rw [Q1 h1]
 exact key hx (Gn hu)
 by_cases h2:w=7
 rw [K_ h1 h2]
 exact key (AY hx) hu
 rw [Pt h1 h2]
 exact key (Gj (AY hx)) hu
theorem VA {m:Nat} (hh:aj h) (hu:aG u):aj (iJ h m g u):=by
 have qu:Q (aG u):=⟨hu⟩
 unfold iJ
 repeat' split
 ·exact mQ hh (inferInstance:Q (aG (interrupted u))).h
 ·exact mQ hh (inferInstance:Q (aG (gI u))).h
 ·exact GL hh hu
 ·exact GL hh hu
 ·exact mQ hh hu
 ·exact mj hh (XT (GK hh) hu)
theorem CR {g:Int} (hh:aj h):aj ((cn h m g).getD h):=by
 unfold cn
 repeat' split
 ·exact hh
 ·exact VA hh (PC hh)
 ·exact hh
theorem jH {F:aV→Option aV} (hh:aj h) (hS:∀ b,aW b→aW ((F b).getD b)):aj ((bp h m F).getD h):=by
 cases hm:cO h m with
 | false=>rw [A0 hm];exact hh
 | true=>
  rw [sG hm]
  exact Q3 hh (cC (eY hm).2) (hS _ (gr (GK hh)))
theorem Bd {g:Int} (hh:aj h):aj ((dg h m g p).getD h):=by
 cases ho:(bp h m (Ef g p)).isSome with
 | false=>rw [xD ho];exact hh
 | true=>
  obtain ⟨x,k,hf⟩:=PB hh ho
  rw [uy ho hf]
  have h1:=hf.sm
  have hx:=h1.2.1.2 x (List.mem_of_getElem? hf.hx)
  have hk:=hx.2.2.2.2.2.2 k (List.mem_of_getElem? hf.hk)
  have h2:=mj (m:=m.toNat) h1 (y:=A8 x g.toNat (forget k p)) ⟨hx.1,hx.2.1,hx.2.2.1,hx.2.2.2.1,hx.2.2.2.2.1,⟨by show (x.Tables.set _ _).length ≤ _;rw [List.length_set];exact hx.2.2.2.2.2.1,fun c hc=>by
   rcases List.mem_or_eq_of_mem_set hc with hc|rfl
   exact hx.2.2.2.2.2.2 c hc
   unfold forget
   split
   exact ⟨by show (put _ _ _).length ≤ _;rw [ol];exact hk.1,by show (put _ _ _).length ≤ _;rw [ol];exact hk.2⟩
   exact hk⟩⟩
  exact ⟨h2.1,h2.2.1,Nat.le_trans (List.length_filter_le _ _) h1.2.2.1,Nat.le_trans (List.length_filter_le _ _) h1.2.2.2⟩
theorem CS {c:Int} (hh:aj h):aj ((jy h m p c v).getD h):=by
 by_cases ho:dG h m p=true∧(0 ≤ c∧c ≤ 3)∧0 ≤ v∧v ≤ 99
 obtain ⟨x,z,x2,z2,hk⟩:=Lq hh ho.1
 rw [B_ ho hk]
 exact ⟨A1 hk.NT.1.1,hk.NT.1.2⟩
 rw [wv ho];exact hh
theorem GM (hh:aj h):aj (((dH h m).map fun q=>q.1).getD h):=by
 rw [Jw]
 exact jH hh fun b hb=>Lr hb
theorem GN {g a:Int} (hh:aj h):aj ((kx h m g a v).getD h):=by
 unfold kx
 split
 cases e:find h m g (bl a) 2 true with
 | none=>exact hh
 | some q=>
  have h1:=Ed hh q e
  exact ⟨A1 h1.1,h1.2⟩
 exact hh
theorem CT {g a:Int} (hh:aj h):aj (((fV h m g a).map fun q=>q.1).getD h):=by
 unfold fV
 split
 cases e:find h m g (bl a) 1 true with
 | none=>exact hh
 | some q=>exact Ed hh q e
 exact hh
theorem Jz (hh:aj h):aj ((mD h m p).getD h):=by
 cases hp:dG h m p with
 | false=>rw [BY hp];exact hh
 | true=>
  obtain ⟨x,z,x2,z2,hk⟩:=Lq hh hp
  by_cases h1:z.aJ= -1
  rw [zl hp hk.hx hk.hz h1]
  exact (tg hk.hs hk.ha hk.hx hk.hz h1).1
  rw [zk hk.hx hk.hz h1];exact hh
theorem CU {t:Int} (hh:aj h):aj ((iW h m t).getD h):=by
 unfold iW
 split
 exact mj hh (GK (m:=m.toNat) hh)
 exact hh
theorem Rc (hh:aj h):aj (Ko h):=by
 refine ⟨hh.1,⟨by show (h.ap.map E5).length ≤ _;rw [List.length_map];exact hh.2.1.1,fun x hx=> ?_⟩,by show (0:Nat) ≤ _;decide,by show (0:Nat) ≤ _;decide⟩
 obtain ⟨y,hy,rfl⟩:=List.mem_map.1 hx
 have h1:=hh.2.1.2 y hy
 refine ⟨h1.1,h1.2.1,h1.2.2.1,h1.2.2.2.1,h1.2.2.2.2.1,⟨by show (y.Tables.map h_).length ≤ _;rw [List.length_map];exact h1.2.2.2.2.2.1,fun c hc=> ?_⟩⟩
 obtain ⟨k,hk,rfl⟩:=List.mem_map.1 hc
 exact xg _ (h1.2.2.2.2.2.2 k hk)
theorem GO {x:an} {n:Int} {q:Option (an×Int)}:Kp x n q=((q.map fun p=>p.1).getD x,⟨q.isSome,(q.map fun p=>p.2).getD n⟩):=by cases q <;> rfl
theorem ha_1 (hk:a.Kind=1):bF h a=fQ h (cn h a.M a.G):=by unfold bF;rw [if_pos hk]
theorem ha_2 (hk:a.Kind=2):bF h a=fQ h (bp h a.M fun b=>d_ b a.G a.X ⟨a.Y,a.Z⟩):=by unfold bF;rw [if_neg (by omega),if_pos hk]
theorem ha_3 (hk:a.Kind=3):bF h a=fQ h (dg h a.M a.G a.X):=by unfold bF;rw [if_neg (by omega),if_neg (by omega),if_pos hk]
theorem ha_4 (hk:a.Kind=4):bF h a=fQ h (bp h a.M fun b=>b_ b a.G a.X):=by unfold bF;rw [if_neg (by omega),if_neg (by omega),if_neg (by omega),if_pos hk]
theorem ha_5 (hk:a.Kind=5):bF h a=fQ h (bp h a.M fun b=>cg b a.G):=by unfold bF;rw [if_neg (by omega),if_neg (by omega),if_neg (by omega),if_neg (by omega),if_pos hk]
theorem ha_6 (hk:a.Kind=6):bF h a=fQ h (bp h a.M fun b=>bU b a.G a.X):=by unfold bF;rw [if_neg (by omega),if_neg (by omega),if_neg (by omega),if_neg (by omega),if_neg (by omega),if_pos hk]
theorem ha_7 (hk:a.Kind=7):bF h a=fQ h (bp h a.M fun b=>ea b a.G (CC a)):=by unfold bF;rw [if_neg (by omega),if_neg (by omega),if_neg (by omega),if_neg (by omega),if_neg (by omega),if_neg (by omega),if_pos hk]
theorem ha_8 (hk:a.Kind=8):bF h a=fQ h (jy h a.M a.X a.Y a.Z):=by unfold bF;rw [if_neg (by omega),if_neg (by omega),if_neg (by omega),if_neg (by omega),if_neg (by omega),if_neg (by omega),if_neg (by omega),if_pos hk]
theorem ha_9 (hk:a.Kind=9):bF h a=fQ h (bp h a.M fun b=>cF b a.X):=by unfold bF;rw [if_neg (by omega),if_neg (by omega),if_neg (by omega),if_neg (by omega),if_neg (by omega),if_neg (by omega),if_neg (by omega),if_neg (by omega),if_pos hk]
theorem VB (hk:a.Kind=10):bF h a=(((dH h a.M).map fun p=>p.1).getD h,⟨(dH h a.M).isSome,((dH h a.M).map fun p=>p.2).getD (-1)⟩):=by unfold bF;rw [if_neg (by omega),if_neg (by omega),if_neg (by omega),if_neg (by omega),if_neg (by omega),if_neg (by omega),if_neg (by omega),if_neg (by omega),if_neg (by omega),if_pos hk,GO]
theorem VC (hk:a.Kind=11):bF h a=fQ h (kx h a.M a.G a.X a.Y):=by unfold bF;rw [if_neg (by omega),if_neg (by omega),if_neg (by omega),if_neg (by omega),if_neg (by omega),if_neg (by omega),if_neg (by omega),if_neg (by omega),if_neg (by omega),if_neg (by omega),if_pos hk]
theorem VD (hk:a.Kind=12):bF h a=(((fV h a.M a.G a.X).map fun p=>p.1).getD h,⟨(fV h a.M a.G a.X).isSome,((fV h a.M a.G a.X).map fun p=>p.2).getD 0⟩):=by unfold bF;rw [if_neg (by omega),if_neg (by omega),if_neg (by omega),if_neg (by omega),if_neg (by omega),if_neg (by omega),if_neg (by omega),if_neg (by omega),if_neg (by omega),if_neg (by omega),if_neg (by omega),if_pos hk,GO]
theorem VE (hk:a.Kind=13):bF h a=fQ h (iU h a.M a.X):=by unfold bF;rw [if_neg (by omega),if_neg (by omega),if_neg (by omega),if_neg (by omega),if_neg (by omega),if_neg (by omega),if_neg (by omega),if_neg (by omega),if_neg (by omega),if_neg (by omega),if_neg (by omega),if_neg (by omega),if_pos hk]
theorem VF (hk:a.Kind=14):bF h a=fQ h (mD h a.M a.X):=by unfold bF;rw [if_neg (by omega),if_neg (by omega),if_neg (by omega),if_neg (by omega),if_neg (by omega),if_neg (by omega),if_neg (by omega),if_neg (by omega),if_neg (by omega),if_neg (by omega),if_neg (by omega),if_neg (by omega),if_neg (by omega),if_pos hk]
theorem VG (hk:a.Kind=15):bF h a=fQ h (guard h a.M a.X):=by unfold bF;rw [if_neg (by omega),if_neg (by omega),if_neg (by omega),if_neg (by omega),if_neg (by omega),if_neg (by omega),if_neg (by omega),if_neg (by omega),if_neg (by omega),if_neg (by omega),if_neg (by omega),if_neg (by omega),if_neg (by omega),if_neg (by omega),if_pos hk]
theorem VH (hk:a.Kind=16):bF h a=fQ h (iW h a.M a.X):=by unfold bF;rw [if_neg (by omega),if_neg (by omega),if_neg (by omega),if_neg (by omega),if_neg (by omega),if_neg (by omega),if_neg (by omega),if_neg (by omega),if_neg (by omega),if_neg (by omega),if_neg (by omega),if_neg (by omega),if_neg (by omega),if_neg (by omega),if_neg (by omega),if_pos hk]
theorem VI (hk:a.Kind=17):bF h a=(Ko h,⟨true,0⟩):=by unfold bF;rw [if_neg (by omega),if_neg (by omega),if_neg (by omega),if_neg (by omega),if_neg (by omega),if_neg (by omega),if_neg (by omega),if_neg (by omega),if_neg (by omega),if_neg (by omega),if_neg (by omega),if_neg (by omega),if_neg (by omega),if_neg (by omega),if_neg (by omega),if_neg (by omega),if_pos hk]
theorem ha_0 (hk:¬ (1 ≤ a.Kind∧a.Kind ≤ 17)):bF h a=(h,⟨false,0⟩):=by unfold bF;rw [if_neg (by omega),if_neg (by omega),if_neg (by omega),if_neg (by omega),if_neg (by omega),if_neg (by omega),if_neg (by omega),if_neg (by omega),if_neg (by omega),if_neg (by omega),if_neg (by omega),if_neg (by omega),if_neg (by omega),if_neg (by omega),if_neg (by omega),if_neg (by omega),if_neg (by omega)]
theorem PD (hh:aj h):aj (bF h a).1:=by
 by_cases hk:1 ≤ a.Kind∧a.Kind ≤ 17
 have hc:a.Kind=1 ∨ a.Kind=2 ∨ a.Kind=3 ∨ a.Kind=4 ∨ a.Kind=5 ∨ a.Kind=6 ∨ a.Kind=7 ∨ a.Kind=8 ∨ a.Kind=9 ∨ a.Kind=10 ∨ a.Kind=11 ∨ a.Kind=12 ∨ a.Kind=13 ∨ a.Kind=14 ∨ a.Kind=15 ∨ a.Kind=16 ∨ a.Kind=17:=by omega
 rcases hc with e|e|e|e|e|e|e|e|e|e|e|e|e|e|e|e|e
 rw [ha_1 e];exact CR hh
 rw [ha_2 e];exact jH hh fun b hb=>dV hb (Li hb)
 rw [ha_3 e];exact Bd hh
 rw [ha_4 e];exact jH hh fun b hb=>dV hb (xw hb)
 rw [ha_5 e];exact jH hh fun b hb=>dV hb (xx hb)
 rw [ha_6 e];exact jH hh fun b hb=>dV hb (xy hb)
 rw [ha_7 e];exact jH hh fun b hb=>dV hb (Lj hb)
 rw [ha_8 e];exact CS hh
 rw [ha_9 e];exact jH hh fun b hb=>dV hb (D_ hb)
 rw [VB e];exact GM hh
 rw [VC e];exact GN hh
 rw [VD e];exact CT hh
 rw [VE e];exact FD hh
 rw [VF e];exact Jz hh
 rw [VG e];exact FR hh
 rw [VH e];exact CU hh
 rw [VI e];exact Rc hh
 rw [ha_0 hk];exact hh
end
set_option maxRecDepth 100000
set_option maxHeartbeats 8000000
theorem GP (h:an) (a:gn) [Q (aj h)] [YM:Q (a.X ≤ 9223372036854775807)]:aF Tryz.prog 74 [A (aq h),A (BG a)] (RG [.a (aq (bF h a).1), .a (Um (bF h a).2)]):=by
 refine aF.w 222 Tryz.func74 fun w g0 _=> ?_
 refine aB ?_ ?_ <;> intro hb
 ·have hh:=(by assumption:Q (aj h)).h
  have qr:Q (aj ((cn h a.M a.G).getD h)):=⟨CR hh⟩
  refine ak (Dv h a.M a.G).k ?_
  refine ak (aP ((cn h a.M a.G).getD h)).k ?_
  exact (by rw [ha_1 (by assumption)];rfl)
 ·refine aB ?_ ?_ <;> intro gY
  ·have hh:=(by assumption:Q (aj h)).h
   have qr:Q (aj ((bp h a.M fun b=>d_ b a.G a.X ⟨a.Y,a.Z⟩).getD h)):=⟨jH hh fun b hb=>dV hb (Li hb)⟩
   refine ak (Gt h a.M a.G a.X ⟨a.Y,a.Z⟩).k ?_
   refine ak (aP ((bp h a.M fun b=>d_ b a.G a.X ⟨a.Y,a.Z⟩).getD h)).k ?_
   exact (by rw [ha_2 (by assumption)];rfl)
  ·refine aB ?_ ?_ <;> intro tY
   ·have hh:=(by assumption:Q (aj h)).h
    have qr:Q (aj ((dg h a.M a.G a.X).getD h)):=⟨Bd hh⟩
    refine ak (Ca h a.M a.G a.X).k ?_
    refine ak (aP ((dg h a.M a.G a.X).getD h)).k ?_
    exact (by rw [ha_3 (by assumption)];rfl)
   ·refine aB ?_ ?_ <;> intro yW
    ·have hh:=(by assumption:Q (aj h)).h
     have qr:Q (aj ((bp h a.M fun b=>b_ b a.G a.X).getD h)):=⟨jH hh fun b hb=>dV hb (xw hb)⟩
     refine ak (A2 h a.M a.G a.X).k ?_
     refine ak (aP ((bp h a.M fun b=>b_ b a.G a.X).getD h)).k ?_
     exact (by rw [ha_4 (by assumption)];rfl)
    ·refine aB ?_ ?_ <;> intro CE
     ·have hh:=(by assumption:Q (aj h)).h
      have qr:Q (aj ((bp h a.M fun b=>cg b a.G).getD h)):=⟨jH hh fun b hb=>dV hb (xx hb)⟩
      refine ak (A4 h a.M a.G).k ?_
      refine ak (aP ((bp h a.M fun b=>cg b a.G).getD h)).k ?_
      exact (by rw [ha_5 (by assumption)];rfl)
     ·refine aB ?_ ?_ <;> intro NX
      ·have hh:=(by assumption:Q (aj h)).h
       have qr:Q (aj ((bp h a.M fun b=>bU b a.G a.X).getD h)):=⟨jH hh fun b hb=>dV hb (xy hb)⟩
       refine ak (A6 h a.M a.G a.X).k ?_
       refine ak (aP ((bp h a.M fun b=>bU b a.G a.X).getD h)).k ?_
       exact (by rw [ha_6 (by assumption)];rfl)
      ·refine aB ?_ ?_ <;> intro RS
       ·have hh:=(by assumption:Q (aj h)).h
        have qr:Q (aj ((bp h a.M fun b=>ea b a.G (CC a)).getD h)):=⟨jH hh fun b hb=>dV hb (Lj hb)⟩
        refine fW [11] [11] [] (.quiet 0 0 (.quiet 1 0 (.quiet 2 0 (.quiet 3 0 (.quiet 4 0 (.quiet 5 0 (.fork (.alt 6 (.fork (.alt 7 (.quiet 8 1 (.quiet 9 1 (.quiet 10 1 (.fork (.alt 11 (.quiet 12 1 .done) .stop))))) .stop)) .stop)))))))) ?_
        repeat' first|exact True.intro|refine And.intro ?_ ?_|(intro _ _)|refine ah (Lh a).k ?_|refine ak (Gv h a.M a.G (CC a)).k ?_
        refine ak (aP ((bp h a.M fun b=>ea b a.G (CC a)).getD h)).k ?_
        exact (by rw [ha_7 (by assumption)];rfl)
       ·refine aB ?_ ?_ <;> intro Xf
        ·have hh:=(by assumption:Q (aj h)).h
         have qr:Q (aj ((jy h a.M a.X a.Y a.Z).getD h)):=⟨CS hh⟩
         refine ak (Dw h a.M a.X a.Y a.Z).k ?_
         refine ak (aP ((jy h a.M a.X a.Y a.Z).getD h)).k ?_
         exact (by rw [ha_8 (by assumption)];rfl)
        ·refine aB ?_ ?_ <;> intro hb9
         ·have hh:=(by assumption:Q (aj h)).h
          have qr:Q (aj ((bp h a.M fun b=>cF b a.X).getD h)):=⟨jH hh fun b hb=>dV hb (D_ hb)⟩
          refine ak (Dp h a.M a.X).k ?_
          refine ak (aP ((bp h a.M fun b=>cF b a.X).getD h)).k ?_
          exact (by rw [ha_9 (by assumption)];rfl)
         ·refine aB ?_ ?_ <;> intro Uw
          ·have hh:=(by assumption:Q (aj h)).h
           have qr:Q (aj (((dH h a.M).map fun p=>p.1).getD h)):=⟨GM hh⟩
           refine ak (GH h a.M).k ?_
           refine ak (aP (((dH h a.M).map fun p=>p.1).getD h)).k ?_
           exact (by rw [VB (by assumption)];rfl)
          ·refine aB ?_ ?_ <;> intro Ux
           ·have hh:=(by assumption:Q (aj h)).h
            have qr:Q (aj ((kx h a.M a.G a.X a.Y).getD h)):=⟨GN hh⟩
            refine ak (GB h a.M a.G a.X a.Y).k ?_
            refine ak (aP ((kx h a.M a.G a.X a.Y).getD h)).k ?_
            exact (by rw [VC (by assumption)];rfl)
           ·refine aB ?_ ?_ <;> intro Xg
            ·have hh:=(by assumption:Q (aj h)).h
             have qr:Q (aj (((fV h a.M a.G a.X).map fun p=>p.1).getD h)):=⟨CT hh⟩
             refine ak (Dt h a.M a.G a.X).k ?_
             refine ak (aP (((fV h a.M a.G a.X).map fun p=>p.1).getD h)).k ?_
             exact (by rw [VD (by assumption)];rfl)
            ·refine aB ?_ ?_ <;> intro hb13
             ·have hh:=(by assumption:Q (aj h)).h
              have qr:Q (aj ((iU h a.M a.X).getD h)):=⟨FD hh⟩
              refine ak (Fz h a.M a.X).k ?_
              refine ak (aP ((iU h a.M a.X).getD h)).k ?_
              exact (by rw [VE (by assumption)];rfl)
             ·refine aB ?_ ?_ <;> intro hb14
              ·have hh:=(by assumption:Q (aj h)).h
               have qr:Q (aj ((mD h a.M a.X).getD h)):=⟨Jz hh⟩
               refine ak (HV h a.M a.X).k ?_
               refine ak (aP ((mD h a.M a.X).getD h)).k ?_
               exact (by rw [VF (by assumption)];rfl)
              ·refine aB ?_ ?_ <;> intro hb15
               ·have hh:=(by assumption:Q (aj h)).h
                have qr:Q (aj ((guard h a.M a.X).getD h)):=⟨FR hh⟩
                refine ak (Az h a.M a.X).k ?_
                refine ak (aP ((guard h a.M a.X).getD h)).k ?_
                exact (by rw [VG (by assumption)];rfl)
               ·refine aB ?_ ?_ <;> intro hb16
                ·have hh:=(by assumption:Q (aj h)).h
                 have qr:Q (aj ((iW h a.M a.X).getD h)):=⟨CU hh⟩
                 refine ak (Ds h a.M a.X).k ?_
                 refine ak (aP ((iW h a.M a.X).getD h)).k ?_
                 exact (by rw [VH (by assumption)];rfl)
                ·refine aB ?_ ?_ <;> intro hb17
                 ·have hh:=(by assumption:Q (aj h)).h
                  have qr:Q (aj (Ko h)):=⟨Rc hh⟩
                  refine ak (NK h).k ?_
                  refine ak (aP (Ko h)).k ?_
                  exact (by rw [VI (by assumption)];rfl)
                 ·refine ak (aP h).k ?_
                  exact (by rw [ha_0 (by omega)];rfl)
end Go.Proofs.YtdliggkohdnipaaGreat.T
