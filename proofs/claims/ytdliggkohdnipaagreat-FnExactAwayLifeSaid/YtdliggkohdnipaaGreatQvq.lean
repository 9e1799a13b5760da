import Derived.Test.YtdliggkohdnipaaGreatOcq
import Derived.Test.YtdliggkohdnipaaGreatRwq
import Derived.Test.YtdliggkohdnipaaGreatPlq
import Derived.Test.YtdliggkohdnipaaGreatPaq
set_option linter.unusedVariables false
set_option linter.unusedSimpArgs false
namespace Go.Proofs.YtdliggkohdnipaaGreat.T
open Go
set_option maxRecDepth 100000
set_option maxHeartbeats 8000000
theorem IR (h:ap) (m:Nat) (x:aV) (p:Nat) (z s:aQ) (hx:h.ai[m]? = some x) (p_:x.Tables.length=x.aa.length) (hz:x.ak[p]? = some z) [Q (aj h)] (ci cj:Nat):kZ Tryz.prog 331 (aq h) [(1,ci),(3,cj)] [0,3,4,14] [.one (.agg [.ref ⟨1000000,[],0⟩, .ref ⟨1000000,[],1⟩, .ref ⟨1000000,[],2⟩, .ref ⟨1000000,[],3⟩]),I m,I p,A (iF s)] (RG [.a (aq (jk h m x p z s))]):=by
 refine kZ.w [999997] 70 Tryz.func331 fun w g0 _=> ?_
 have qx:Q (bt x):=⟨jW.h x (aH hx)⟩
 have hml:=(aM.1 hx).1
 have oQ:=(aM.1 hz).1
 have nW:m < (h.ai.map bA).length:=by rw [aI];exact hml
 have AR:p < (x.ak.map aT).length:=by rw [aI];exact oQ
 have QC:=(inferInstance:cX x.aa 1048576).h
 first|refine dM ‹_› ?_|refine di ?_
 first|refine cJ ?_|refine aL ‹_› ?_
 first|refine cJ ?_|refine aL ‹_› ?_
 first|refine dM ‹_› ?_|refine di ?_
 first|refine cJ ?_|refine aL ‹_› ?_
 first|refine cJ ?_|refine aL ‹_› ?_
 refine ck [1,2,4,7,8,9,10] [] [1000000] (fun (k:Nat)=>[.set 11 (I k)]) (fun (k:Nat)=>[(1000000,⟨false,[.own (.sl 1 (h.au.map aP)), .own (.sl 9 (((h.ai.set m (dy x p k)).map bA))), .own (.sl 4 (h.Buffer.map aC)), .own (.sl 4 (h.aD.map aC)), .ref ⟨1000000,[(1,ci),(3,cj)],0⟩, .ref ⟨1000000,[(1,ci),(3,cj)],3⟩, .ref ⟨1000000,[(1,ci),(3,cj)],4⟩, .ref ⟨1000000,[(1,ci),(3,cj)],14⟩]⟩)]) (fun (k:Nat)=>k ≤ x.aa.length) (fun (k:Nat)=>x.aa.length - k) (0) (bG _) ?_
 refine ⟨(hda (by repeat' first|exact rfl|constructor|(refine dL ?_;rw [C6,Hf hx];done))),fun k hyp N1 bq=> ?_⟩
 have hyp:k ≤ x.aa.length:=hyp
 have hm:=dS (y:=dy x p k) hx
 have JO:(dy x p k).Tables.length=x.aa.length:=AP (p:=p) p_ hyp
 have hgk:(dy x p k).aa.length=x.aa.length:=rfl
 have hko:(dy x p k).ak.length=x.ak.length:=rfl
 have hzk:(dy x p k).ak[p]? = some z:=hz
 have hko2:p < ((dy x p k).ak.map aT).length:=by rw [aI];exact oQ
 have hml3:m < ((h.ai.set m (dy x p k)).map bA).length:=by rw [aI,bD];exact hml
 first|refine cJ ?_|refine aL ‹_› ?_
 refine len ?_
 refine aB ?_ ?_ <;> intro hb
 ·obtain ⟨t,ht⟩:∃ t,x.Tables[k]? = some t:=⟨_,bg (by omega)⟩
  obtain ⟨g,hg⟩:∃ g,x.aa[k]? = some g:=⟨_,bg (by omega)⟩
  have htk:(dy x p k).Tables[k]? = some t:=AQ p_ ht
  have hgk2:(dy x p k).aa[k]? = some g:=hg
  have qt:Q (dR t):=⟨jW.h t (aH ht)⟩
  have qg:Q (aJ g):=⟨jW.h g (aH hg)⟩
  refine cI [17] [(0,0),(1,0),(2,0),(3,0),(4,0),(5,0),(6,0),(7,0),(8,0),(9,0),(10,0),(11,0),(12,0),(13,0),(14,0),(15,1),(16,0),(17,1)] ?_
  first|refine cJ ?_|refine aL ‹_› ?_
  first|refine dM ‹_› ?_|refine di ?_
  first|refine cJ ?_|refine aL ‹_› ?_
  first|refine cJ ?_|refine aL ‹_› ?_
  first|refine cJ ?_|refine aL ‹_› ?_
  first|refine dM ‹_› ?_|refine di ?_
  first|refine cJ ?_|refine aL ‹_› ?_
  first|refine cJ ?_|refine aL ‹_› ?_
  refine an (tt t g.Live p).k ?_ (by repeat first|exact rfl|refine fi.mk (by first|exact WD.w|assumption) ?_|refine aL ‹_› ?_)
  first|refine cJ ?_|refine aL ‹_› ?_
  first|refine dM ‹_› ?_|refine di ?_
  first|refine cJ ?_|refine aL ‹_› ?_
  first|refine cJ ?_|refine aL ‹_› ?_
  refine cg ?_
  refine bq _ _ _ ?_
  refine hY (k + 1) (by omega) (by repeat' first|exact rfl|constructor|(refine dL ?_;rw [C7 p_ ht hg];done))
 ·refine bq _ _ _ ?_
  refine aB ?_ ?_ <;> intro iz
  ·refine bu (mL _ z.aN).k ?_
   refine bu (mL _ z.aN).k ?_
   first|refine cJ ?_|refine aL ‹_› ?_
   first|refine dM ‹_› ?_|refine di ?_
   first|refine cJ ?_|refine aL ‹_› ?_
   first|refine cJ ?_|refine aL ‹_› ?_
   first|refine dM ‹_› ?_|refine di ?_
   refine cJ ?_
   repeat first|refine slf ?_|refine cJ ?_
   exact ⟨(by first|(rw [C8 (k:=k) p_ (by omega) (by omega)];rfl)|(rw [KN (k:=k) p_ (by omega) (by omega)];rfl)),_,_,_,_,_,_,_,rfl,rfl,rfl,rfl⟩
  ·first|refine cJ ?_|refine aL ‹_› ?_
   first|refine dM ‹_› ?_|refine di ?_
   first|refine cJ ?_|refine aL ‹_› ?_
   first|refine cJ ?_|refine aL ‹_› ?_
   first|refine dM ‹_› ?_|refine di ?_
   refine cJ ?_
   repeat first|refine slf ?_|refine cJ ?_
   exact ⟨(by rw [C8 (k:=k) p_ (by omega) (by omega)];rfl),_,_,_,_,_,_,_,rfl,rfl,rfl,rfl⟩
theorem lu {row:List D} (h:ap) (m:Nat) (x:aV) (p:Nat) (z s:aQ) (hr:row=aq h) (hx:h.ai[m]? = some x) (p_:x.Tables.length=x.aa.length) (hz:x.ak[p]? = some z) (q:aj h) (ci cj:Nat):
  kZ Tryz.prog 331 row [(1,ci),(3,cj)] [0,3,4,14] [.one (.agg [.ref ⟨1000000,[],0⟩, .ref ⟨1000000,[],1⟩, .ref ⟨1000000,[],2⟩, .ref ⟨1000000,[],3⟩]),I m,I p,A (iF s)] (RG [.a (aq (jk h m x p z s))]):=by
 subst hr
 have:Q (aj h):=⟨q⟩
 exact IR h m x p z s hx p_ hz ci cj
theorem JG (h:ap) (m:Nat) (x:aV) (p:Nat) (z:aQ) (hx:h.ai[m]? = some x) (p_:x.Tables.length=x.aa.length) (hz:x.ak[p]? = some z) (PI:x.Out.length=8) (Jk:x.ak.length=8) [Q (aj h)] (ci cj:Nat):kZ Tryz.prog 431 (aq h) [(1,ci),(3,cj)] [0,3,4,14] [.one (.agg [.ref ⟨1000000,[],0⟩, .ref ⟨1000000,[],1⟩, .ref ⟨1000000,[],2⟩, .ref ⟨1000000,[],3⟩]),I m,I p] (RG [.a (aq (cy h m p))]):=by
 refine kZ.w [999997] 33 Tryz.func431 fun w g0 _=> ?_
 rw [← Mh hx hz]
 have qx:Q (bt x):=⟨jW.h x (aH hx)⟩
 have hml:=(aM.1 hx).1
 have oQ:=(aM.1 hz).1
 have nW:m < (h.ai.map bA).length:=by rw [aI];exact hml
 have AR:p < (x.ak.map aT).length:=by rw [aI];exact oQ
 obtain ⟨y,hy⟩:∃ y,x.Out[p]? = some y:=⟨_,bg (by omega)⟩
 refine cI [21] [(0,0),(1,0),(2,0),(3,0),(4,0),(5,0),(6,0),(7,0),(8,0),(9,0),(10,0),(11,0),(12,0),(13,0),(14,0),(15,0),(16,0),(17,0),(18,0),(19,1),(20,0),(21,1)] ?_
 first|refine dM ‹_› ?_|refine di ?_
 first|refine cJ ?_|refine aL ‹_› ?_
 first|refine dM ‹_› ?_|refine di ?_
 first|refine cJ ?_|refine aL ‹_› ?_
 first|refine cJ ?_|refine aL ‹_› ?_
 first|refine dM ‹_› ?_|refine di ?_
 first|refine cJ ?_|refine aL ‹_› ?_
 first|refine cJ ?_|refine aL ‹_› ?_
 refine bu (p5 _ _).k ?_
 first|refine cJ ?_|refine aL ‹_› ?_
 first|refine dM ‹_› ?_|refine di ?_
 first|refine cJ ?_|refine aL ‹_› ?_
 first|refine cJ ?_|refine aL ‹_› ?_
 refine cI [4,5] [(0,0),(1,0),(2,0),(3,1),(4,1),(5,1)] ?_
 refine ah (cW).k ?_
 refine sZ 1000000 [(1000000,0),(1000000,1),(1000000,2),(1000000,3)] (lu (row:=Mg h m x p z) (yY h m x p z) m (vG h x p z) p z bE (KO h m x p z) (dS hx) p_ hz (Hl (by assumption:Q (aj h)).h qx.h) ci cj) ?_
 exact ⟨rfl,_,_,_,_,_,_,_,rfl,rfl,rfl,rfl⟩
theorem IS {row:List D} {mi pi:Int} (h:ap) (m:Nat) (x:aV) (p:Nat) (z:aQ) (CA:mi=m) (Hh:pi=p) (hr:row=aq h) (hx:h.ai[m]? = some x) (p_:x.Tables.length=x.aa.length) (hz:x.ak[p]? = some z) (PI:x.Out.length=8) (Jk:x.ak.length=8) (q:aj h) (ci cj:Nat):
  kZ Tryz.prog 431 row [(1,ci),(3,cj)] [0,3,4,14] [.one (.agg [.ref ⟨1000000,[],0⟩, .ref ⟨1000000,[],1⟩, .ref ⟨1000000,[],2⟩, .ref ⟨1000000,[],3⟩]),I mi,I pi] (RG [.a (aq (cy h m p))]):=by
 subst hr CA Hh
 have:Q (aj h):=⟨q⟩
 exact JG h m x p z hx p_ hz PI Jk ci cj
theorem M2 (h:ap) (m:Nat) (x:aV) (p:Nat) (z:aQ) (hs:oV h) (ha:ku h) (hx:h.ai[m]? = some x) (hz:x.ak[p]? = some z) (h1:z.aN= -1) (ci cj:Nat):kZ Tryz.prog 432 (aq h) [(1,ci),(3,cj)] [0,3,4,14] [.one (.agg [.ref ⟨1000000,[],0⟩, .ref ⟨1000000,[],1⟩, .ref ⟨1000000,[],2⟩, .ref ⟨1000000,[],3⟩]),I m,I p] (RG [.a (aq (cB h m p))]):=by
 refine kZ.w [999997] 56 Tryz.func432 fun w g0 _=> ?_
 have qh:Q (aj h):=hs.q
 obtain ⟨x1,t,l,hr,D5⟩:=y5 hs ha hx hz h1
 have hp8:=(aM.1 hz).1
 have jS:=hs.cK hx
 have WS:=jS.1
 have hml0:=(aM.1 hx).1
 have IY:cB h m p=xA (roomFor h) m p:=rfl
 refine bu (lB h).k ?_
 refine len ?_
 refine aB ?_ ?_ <;> intro hb
 ·have hf:fj h=[]:=List.length_eq_zero_iff.1 (by omega)
  obtain ⟨a,b,ho⟩:=y4 hs.2.1 hf
  obtain ⟨u,s,hu,hw,Qr,XV⟩:=pH ho
  clear Qr XV
  rw [ya hf ho] at hr IY
  have R9:=hs.cK hu
  refine an (nV h 0).k ?_
  refine sZ 1000000 [(1000000,0),(1000000,1),(1000000,2),(1000000,3)] (IS (mi:=oM (bV h 0)) (pi:=oP (bV h 0)) (row:=aq h) h a u b s (by rw [ho];rfl) (by rw [ho];rfl) rfl hu R9.2.2.2 hw R9.2.1 R9.1 hs.1 ci cj) ?_
  skip
  have qk:Q (aj (cy h a b)):=hr.hs.q
  have hmk:=hr.hs.cK hr.hx
  have HO:=hmk.1
  have WT:=hmk.2.1
  have mg:=hr.hx
  have uk:=hr.hz
  have ht:=hr.ht
  have Lk:(fj (cy h a b))[0]? = some t:=by rw [hr.hf];rfl
  have hfl:0 < (fj (cy h a b)).length:=by rw [hr.hf];exact Nat.succ_pos _
  have qx:Q (bt x1):=⟨hr.hs.sm hr.hx⟩
  obtain ⟨y,hy⟩:∃ y,x1.Out[p]? = some y:=⟨_,bg (by omega)⟩
  have qy:Q (dP y):=⟨jW.h y (aH hy)⟩
  have hml:=(aM.1 mg).1
  have oQ:=(aM.1 uk).1
  have nW:m < ((cy h a b).ai.map bA).length:=by rw [aI];exact hml
  have AR:p < (x1.ak.map aT).length:=by rw [aI];exact oQ
  have Zg:=(aM.1 hy).1
  have hkm:=hr.hs.2.1
  rw [tG hr hy] at IY
  refine bu (lB (cy h a b)).k ?_
  refine di (m:=0) ?_ (by rw [aI];exact hfl)
  refine aL ‹_› ?_
  refine cI [14] [(0,0),(1,0),(2,0),(3,0),(4,0),(5,0),(6,0),(7,0),(8,0),(9,0),(10,0),(11,0),(12,1),(13,0),(14,1)] ?_
  refine di ?_
  refine aL ‹_› ?_
  refine aL ‹_› ?_
  refine di ?_
  refine aL ‹_› ?_
  refine aL ‹_› ?_
  refine bu (nF (cy h a b).au t y).k ?_
  refine di ?_
  refine aL ‹_› ?_
  refine aL ‹_› ?_
  refine di ?_
  refine aL ‹_› ?_
  refine aL ‹_› ?_
  refine sZ 1000000 [(3,0),(22,1),(22,2),(22,3)] (lu (row:=KT (cy h a b) m x1 p y t) (vO (cy h a b) m x1 p y t) m (wH x1 p) p z ⟨t,3⟩ (B6 (cy h a b) m x1 p y t) (dS mg) hmk.2.2.2 uk (sR hr.hs mg qy.h).1 ci cj) ?_
  exact ⟨(by rw [IY];rfl),_,_,_,_,_,_,_,rfl,rfl,rfl,rfl⟩
 ·rw [B2 (fun e=>by rw [e] at hb;simp at hb)] at hr IY
  have qk:Q (aj h):=hr.hs.q
  have hmk:=hr.hs.cK hr.hx
  have HO:=hmk.1
  have WT:=hmk.2.1
  have mg:=hr.hx
  have uk:=hr.hz
  have ht:=hr.ht
  have Lk:(fj h)[0]? = some t:=by rw [hr.hf];rfl
  have hfl:0 < (fj h).length:=by rw [hr.hf];exact Nat.succ_pos _
  have qx:Q (bt x1):=⟨hr.hs.sm hr.hx⟩
  obtain ⟨y,hy⟩:∃ y,x1.Out[p]? = some y:=⟨_,bg (by omega)⟩
  have qy:Q (dP y):=⟨jW.h y (aH hy)⟩
  have hml:=(aM.1 mg).1
  have oQ:=(aM.1 uk).1
  have nW:m < (h.ai.map bA).length:=by rw [aI];exact hml
  have AR:p < (x1.ak.map aT).length:=by rw [aI];exact oQ
  have Zg:=(aM.1 hy).1
  have hkm:=hr.hs.2.1
  rw [tG hr hy] at IY
  refine bu (lB h).k ?_
  refine di (m:=0) ?_ (by rw [aI];exact hfl)
  refine aL ‹_› ?_
  refine cI [14] [(0,0),(1,0),(2,0),(3,0),(4,0),(5,0),(6,0),(7,0),(8,0),(9,0),(10,0),(11,0),(12,1),(13,0),(14,1)] ?_
  refine di ?_
  refine aL ‹_› ?_
  refine aL ‹_› ?_
  refine di ?_
  refine aL ‹_› ?_
  refine aL ‹_› ?_
  refine bu (nF h.au t y).k ?_
  refine di ?_
  refine aL ‹_› ?_
  refine aL ‹_› ?_
  refine di ?_
  refine aL ‹_› ?_
  refine aL ‹_› ?_
  refine sZ 1000000 [(3,0),(1000000,1),(1000000,2),(1000000,3)] (lu (row:=KT h m x1 p y t) (vO h m x1 p y t) m (wH x1 p) p z ⟨t,3⟩ (B6 h m x1 p y t) (dS mg) hmk.2.2.2 uk (sR hr.hs mg qy.h).1 ci cj) ?_
  exact ⟨(by rw [IY];rfl),_,_,_,_,_,_,_,rfl,rfl,rfl,rfl⟩
theorem JH {row:List D} {mi pi:Int} (h:ap) (m:Nat) (x:aV) (p:Nat) (z:aQ) (CA:mi=m) (Hh:pi=p) (hr:row=aq h) (hs:oV h) (ha:ku h) (hx:h.ai[m]? = some x) (hz:x.ak[p]? = some z) (h1:z.aN= -1) (ci cj:Nat):
  kZ Tryz.prog 432 row [(1,ci),(3,cj)] [0,3,4,14] [.one (.agg [.ref ⟨1000000,[],0⟩, .ref ⟨1000000,[],1⟩, .ref ⟨1000000,[],2⟩, .ref ⟨1000000,[],3⟩]),I mi,I pi] (RG [.a (aq (cB h m p))]):=by
 subst hr CA Hh
 exact M2 h m x p z hs ha hx hz h1 ci cj
theorem IT (h:ap) (m:Nat) (x:aV) (p:Nat) (z:aQ) (need:Int) (hn:0 ≤ need∧need ≤ 3) (hs:oV h) (ha:ku h) (hx:h.ai[m]? = some x) (hz:x.ak[p]? = some z) (uo:XT z) (ci cj:Nat):kZ Tryz.prog 353 (aq h) [(1,ci),(3,cj)] [0,3,4,14] [.one (.agg [.ref ⟨1000000,[],0⟩, .ref ⟨1000000,[],1⟩, .ref ⟨1000000,[],2⟩, .ref ⟨1000000,[],3⟩]),I m,I p,I need] (RG [.a (aq (cP h m p need))]):=by
 refine kZ.w [999997] 58 Tryz.func353 fun w g0 _=> ?_
 have qh:Q (aj h):=hs.q
 have u5:Q (bt x):=⟨hs.sm hx⟩
 have jS:=hs.cK hx
 have WS:=jS.1
 have hml:=(aM.1 hx).1
 have oQ:=(aM.1 hz).1
 have nW:m < (h.ai.map bA).length:=by rw [aI];exact hml
 have AR:p < (x.ak.map aT).length:=by rw [aI];exact oQ
 have XW:z.aN= -1 ↔ z.aN= -1∧z.bf=0:=⟨fun e=>⟨e,uo.2.2 e⟩,fun e=>e.1⟩
 have TG:bE.aN= -1:=rfl
 have TH:bE.bf=0:=rfl
 have htn:=vQ hn
 have WV:=uo.1
 have WW:=uo.2.1
 refine o_ ?_
 refine di ?_
 refine aL ‹_› ?_
 refine aL ‹_› ?_
 refine di ?_
 refine aL ‹_› ?_
 refine aL ‹_› ?_
 refine iL (cW).k ?_
 refine Tw ?_
 refine aB ?_ ?_ <;> intro hb
 refine sZ 1000000 [(1000000,0),(1000000,1),(1000000,2),(1000000,3)] (JH (mi:=m) (pi:=p) h m x p z rfl rfl rfl hs ha hx hz (by omega) ci cj) ?_
 obtain ⟨x1,z1,mg,uk,Na,hks⟩:∃ x1 z1,(cB h m p).ai[m]? = some x1∧x1.ak[p]? = some z1∧(0 ≤ z1.bf∧z1.bf ≤ 3)∧oV (cB h m p):=(by obtain ⟨y,t,h2,h3,h4⟩:=yb hs ha hx hz (by omega);exact ⟨y,_,h2,h3,⟨by show (0:Int) ≤ 3;decide,by show (3:Int) ≤ 3;decide⟩,u0 hs ha hx hz (by omega)⟩)
 have hme:cP h m p need=if s5 need 2=0 then cB h m p else zB (cB h m p) m p:=(by unfold cP;rw [iv hx hz];simp only [if_pos (show z.aN= -1 by omega)])
 have qk:Q (aj (cB h m p)):=hks.q
 have hmk:=hks.cK mg
 have HO:=hmk.1
 have WX:=hmk.2.2.1
 have qx:Q (bt x1):=⟨hks.sm mg⟩
 have Nb:=(aM.1 mg).1
 have QR:m < ((cB h m p).ai.map bA).length:=by rw [aI];exact Nb
 have hkp:=(aM.1 uk).1
 have WY:p < (x1.ak.map aT).length:=by rw [aI];exact hkp
 obtain ⟨bd,hbd⟩:∃ b,x1.bI[p]? = some b:=⟨_,bg (by omega)⟩
 have PO:=(aM.1 hbd).1
 have WZ:p < (x1.bI.map bO).length:=by rw [aI];exact PO
 have htz:=vQ Na
 refine aB ?_ ?_ <;> intro iz
 exact ⟨(by rw [hme,if_pos (by simp_all)];rfl),_,_,_,_,_,_,_,rfl,rfl,rfl,rfl⟩
 refine di ?_
 refine aL ‹_› ?_
 refine aL ‹_› ?_
 refine di ?_
 refine aL ‹_› ?_
 refine aL ‹_› ?_
 refine di ?_
 refine cJ ?_
 refine cJ ?_
 refine di ?_
 refine cJ ?_
 refine aL ‹_› ?_
 refine aB ?_ ?_ <;> intro tr
 refine sZ 1000000 [(24,0),(24,1),(24,2),(24,3)] (lu (row:=vR (cB h m p) m x1 p) (tH (cB h m p) m x1 p) m (wI x1 p) p z1 ⟨z1.aN,3⟩ (jh (cB h m p) m x1 p) (dS mg) hmk.2.2.2 uk (pL hks mg).1 ci cj) ?_
 exact ⟨(by rw [hme,if_neg (by simp_all),sS mg uk (by simp_all)];rfl),_,_,_,_,_,_,_,rfl,rfl,rfl,rfl⟩
 exact ⟨(by rw [hme,if_neg (by simp_all),tI mg uk (by simp_all), ← jh];rfl),_,_,_,_,_,_,_,rfl,rfl,rfl,rfl⟩
 obtain ⟨x1,z1,mg,uk,Na,hks⟩:∃ x1 z1,h.ai[m]? = some x1∧x1.ak[p]? = some z1∧(0 ≤ z1.bf∧z1.bf ≤ 3)∧oV h:=⟨x,z,hx,hz,⟨WV,WW⟩,hs⟩
 have hme:cP h m p need=if s5 need 2=0 then h else zB h m p:=(by unfold cP;rw [iv hx hz];simp only [if_neg (show ¬ z.aN= -1 by omega)])
 have qk:Q (aj h):=hks.q
 have hmk:=hks.cK mg
 have HO:=hmk.1
 have WX:=hmk.2.2.1
 have qx:Q (bt x1):=⟨hks.sm mg⟩
 have Nb:=(aM.1 mg).1
 have QR:m < (h.ai.map bA).length:=by rw [aI];exact Nb
 have hkp:=(aM.1 uk).1
 have WY:p < (x1.ak.map aT).length:=by rw [aI];exact hkp
 obtain ⟨bd,hbd⟩:∃ b,x1.bI[p]? = some b:=⟨_,bg (by omega)⟩
 have PO:=(aM.1 hbd).1
 have WZ:p < (x1.bI.map bO).length:=by rw [aI];exact PO
 have htz:=vQ Na
 refine aB ?_ ?_ <;> intro AJ
 exact ⟨(by rw [hme,if_pos (by simp_all)];rfl),_,_,_,_,_,_,_,rfl,rfl,rfl,rfl⟩
 refine di ?_
 refine aL ‹_› ?_
 refine aL ‹_› ?_
 refine di ?_
 refine aL ‹_› ?_
 refine aL ‹_› ?_
 refine di ?_
 refine cJ ?_
 refine cJ ?_
 refine di ?_
 refine cJ ?_
 refine aL ‹_› ?_
 refine aB ?_ ?_ <;> intro D0
 refine sZ 1000000 [(1000000,0),(1000000,1),(1000000,2),(1000000,3)] (lu (row:=vR h m x1 p) (tH h m x1 p) m (wI x1 p) p z1 ⟨z1.aN,3⟩ (jh h m x1 p) (dS mg) hmk.2.2.2 uk (pL hks mg).1 ci cj) ?_
 exact ⟨(by rw [hme,if_neg (by simp_all),sS mg uk (by simp_all)];rfl),_,_,_,_,_,_,_,rfl,rfl,rfl,rfl⟩
 exact ⟨(by rw [hme,if_neg (by simp_all),tI mg uk (by simp_all), ← jh];rfl),_,_,_,_,_,_,_,rfl,rfl,rfl,rfl⟩
end Go.Proofs.YtdliggkohdnipaaGreat.T
