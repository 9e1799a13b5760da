import Derived.Test.YtdliggkohdnipaaGreatRpq
import Derived.Test.YtdliggkohdnipaaGreatPiq
set_option linter.unusedVariables false
set_option linter.unusedSimpArgs false
namespace Go.Proofs.YtdliggkohdnipaaGreat.T
open Go
section
variable {t:Int} {m:List (List Int)} {l y:List Int} {p:Nat} {h:ap} {x:aV} {z:aQ}
set_option maxRecDepth 100000
set_option maxHeartbeats 8000000
def wH (x:aV) (p:Nat):aV:={ x with Out:=x.Out.set p [] }
def AY (x:aV) (p:Nat) (t:Int):aV:={ x with Out:=x.Out.set p [],ak:=x.ak.set p ⟨t,3⟩ }
def vO (h:ap) (m:Nat) (x:aV) (p:Nat) (y:List Int) (t:Int):ap:={ h with au:=fG h.au t y,ai:=h.ai.set m (wH x p) }
def vP (h:ap) (m:Nat) (x:aV) (p:Nat) (y:List Int) (t:Int):ap:={ h with au:=fG h.au t y,ai:=h.ai.set m (AY x p t) }
abbrev KT (h:ap) (m:Nat) (x:aV) (p:Nat) (y:List Int) (t:Int):List D:=[.sl 1 ((fG h.au t y).map aP), .sl 9 ((h.ai.map bA).set m (.st [.sl 2 (x.ak.map aT), .sl 1 ((x.Out.map aP).set p (.sl 1 [])), .sl 1 (x.bI.map bO), .sl 15 (x.aa.map bp), .sl 1 (x.cm.map bS), .v (.int .i64 x.av), .v (.int .i64 x.bn), .sl 2 (x.Tables.map cz), .v (.int .i64 x.Own)])), .sl 4 (h.Buffer.map aC), .sl 4 (h.aD.map aC)]
abbrev MB (h:ap) (m:Nat) (x:aV) (p:Nat) (y:List Int) (t:Int):List D:=[.sl 1 ((fG h.au t y).map aP), .sl 9 (((h.ai.map bA).set m (.st [.sl 2 (x.ak.map aT), .sl 1 ((x.Out.map aP).set p (.sl 1 [])), .sl 1 (x.bI.map bO), .sl 15 (x.aa.map bp), .sl 1 (x.cm.map bS), .v (.int .i64 x.av), .v (.int .i64 x.bn), .sl 2 (x.Tables.map cz), .v (.int .i64 x.Own)])).set m (.st [.sl 2 ((x.ak.map aT).set p (.st [.v (.int .i64 t), .v (.int .i64 3)])), .sl 1 ((x.Out.map aP).set p (.sl 1 [])), .sl 1 (x.bI.map bO), .sl 15 (x.aa.map bp), .sl 1 (x.cm.map bS), .v (.int .i64 x.av), .v (.int .i64 x.bn), .sl 2 (x.Tables.map cz), .v (.int .i64 x.Own)])), .sl 4 (h.Buffer.map aC), .sl 4 (h.aD.map aC)]
theorem B6 (h:ap) (m:Nat) (x:aV) (p:Nat) (y:List Int) (t:Int):KT h m x p y t=aq (vO h m x p y t):=by
 have e:bA (wH x p)= .st [.sl 2 (x.ak.map aT), .sl 1 ((x.Out.map aP).set p (.sl 1 [])), .sl 1 (x.bI.map bO), .sl 15 (x.aa.map bp), .sl 1 (x.cm.map bS), .v (.int .i64 x.av), .v (.int .i64 x.bn), .sl 2 (x.Tables.map cz), .v (.int .i64 x.Own)]:=by
  show D.st [_, .sl 1 ((x.Out.set p []).map aP),_,_,_,_,_,_,_]=_
  rw [bL]
  rfl
 unfold KT vO
 show _=[_,D.sl 9 ((h.ai.set m (wH x p)).map bA),_,_]
 rw [bL,e]
theorem KU (h:ap) (m:Nat) (x:aV) (p:Nat) (y:List Int) (t:Int):MB h m x p y t=aq (vP h m x p y t):=by
 have e:bA (AY x p t)= .st [.sl 2 ((x.ak.map aT).set p (.st [.v (.int .i64 t), .v (.int .i64 3)])), .sl 1 ((x.Out.map aP).set p (.sl 1 [])), .sl 1 (x.bI.map bO), .sl 15 (x.aa.map bp), .sl 1 (x.cm.map bS), .v (.int .i64 x.av), .v (.int .i64 x.bn), .sl 2 (x.Tables.map cz), .v (.int .i64 x.Own)]:=by
  show D.st [.sl 2 ((x.ak.set p ⟨t,3⟩).map aT), .sl 1 ((x.Out.set p []).map aP),_,_,_,_,_,_,_]=_
  rw [bL,bL]
  rfl
 unfold MB vP
 rw [cS]
 show _=[_,D.sl 9 ((h.ai.set m (AY x p t)).map bA),_,_]
 rw [bL,e]
theorem OS {p:Int} (hm:eD m) (hy:dP y):eD (fG m p y):=by
 unfold fG
 split
 unfold put
 split
 refine ⟨by rw [bD];exact hm.1,fun c hc=> ?_⟩
 rcases lN hc with hc|rfl
 exact hm.2 c hc
 exact hy
 exact hm
 exact hm
theorem MC {p:Int}:(fG m p y).length=m.length:=by
 unfold fG
 split
 unfold put
 split
 rw [bD]
 rfl
 rfl
theorem HL (hx:bt x):bt (wH x p):=by
 refine ⟨hx.1,⟨by show (x.Out.set _ _).length ≤ _;rw [bD];exact hx.2.1.1,fun c hc=> ?_⟩,hx.2.2⟩
 rcases lN hc with hc|rfl
 exact hx.2.1.2 c hc
 simp [dP]
theorem TX (hx:bt x):bt (AY x p t):=⟨by show (x.ak.set _ _).length ≤ _;rw [bD];exact hx.1,(HL (p:=p) hx).2⟩
theorem KV (hx:Y8 x):Y8 (wH x p):=⟨hx.1,by show (x.Out.set _ _).length=8;rw [bD];exact hx.2.1,hx.2.2⟩
theorem Su {p:Int} (hh:oV h) (hy:dP y):oV { h with au:=fG h.au p y }:=⟨⟨OS hh.1.1 hy,hh.1.2⟩,by show (fG _ _ _).length=12;rw [MC];exact hh.2.1,hh.2.2⟩
theorem sR {m:Nat} (hh:oV h) (hx:h.ai[m]? = some x) (hy:dP y):oV (vO h m x p y t):=FA (Su hh hy) (HL (hh.sm hx)) (KV (hh.cK hx))
theorem HM {m:Nat} (hh:oV h) (hx:h.ai[m]? = some x) (hy:dP y):aj (vP h m x p y t):=nI (h:={ h with au:=fG h.au t y }) (Su hh hy).1 (TX (hh.sm hx))
theorem tG {m:Nat} (hr:Room h m p x z t l) (hy:x.Out[p]? = some y):xA h m p=jk (vO h m x p y t) m (wH x p) p z ⟨t,3⟩:=by
 have h1:(xz { h with au:=fG h.au t y } m p []).ai[m]? = some (wH x p):=by
  rw [rT (x:=x) (by exact hr.hx)]
  exact dS hr.hx
 unfold xA
 rw [lZ hr.hx,hy,hr.hf]
 show tn (xz { h with au:=fG h.au t y } m p []) m p ⟨t,3⟩=_
 rw [sK h1 (show (wH x p).ak[p]? = some z from hr.hz),rT (x:=x) (by exact hr.hx)]
 rfl
theorem OT {m:Nat} (hr:Room h m p x z t l) (hy:x.Out[p]? = some y):xA h m p=spoilt (vP h m x p y t) m (AY x p t) p z:=by
 rw [tG hr hy]
 unfold jk vO spoilt vP
 simp only [cS]
 rfl
theorem u0 {m:Nat} (hs:oV h) (ha:ku h) (hx:h.ai[m]? = some x) (hz:x.ak[p]? = some z) (h1:z.aN= -1):oV (cB h m p):=by
 obtain ⟨x1,t,l,hr,D5⟩:=y5 hs ha hx hz h1
 have h8:=(hr.hs.cK hr.hx).2.1
 have hp:p < 8:=by have:=(aM.1 hr.hz).1;have:=(hr.hs.cK hr.hx).1;omega
 obtain ⟨y,hy⟩:∃ y,x1.Out[p]? = some y:=⟨_,bg (by omega)⟩
 have qy:dP y:=(hr.hs.sm hr.hx).2.1.2 y (aH hy)
 unfold cB
 rw [tG hr hy]
 exact HB (sR hr.hs hr.hx qy) (HL (hr.hs.sm hr.hx)) (KV (hr.hs.cK hr.hx))
theorem HN {row:List D} {mi pi:Int} (h:ap) (m:Nat) (x:aV) (p:Nat) (z:aQ) (CA:mi=m) (Hh:pi=p) (hr:row=aq h) (hx:h.ai[m]? = some x) (p_:x.Tables.length=x.aa.length) (hz:x.ak[p]? = some z) (PI:x.Out.length=8) (Jk:x.ak.length=8) (q:aj h):
  ng Tryz.prog 431 row [.one (.agg [.ref ⟨1000000,[],0⟩, .ref ⟨1000000,[],1⟩, .ref ⟨1000000,[],2⟩, .ref ⟨1000000,[],3⟩]),I mi,I pi] (RG [.a (aq (cy h m p))]):=by
 subst hr CA Hh
 have:Q (aj h):=⟨q⟩
 exact Ac h m x p z hx p_ hz PI Jk
theorem De (h:ap) (a b:Nat) (u:aV) (s:aQ) (ho:bV h 0=some (a,b)) (hu:h.ai[a]? = some u) (hw:u.ak[b]? = some s) (hs:oV h):eH Tryz.prog 411 (⟨true,aq h⟩) [.one (.ptr ⟨1000001,[],0⟩)] (zx (aq (cy h a b)) (.mj [])):=by
 refine eH.w 15 Tryz.func411 fun w g0 _=> ?_
 have qh:Q (aj h):=hs.q
 have R9:=hs.cK hu
 refine an (sJ h 0).k ?_
 refine qD 1000001 (D3 (mi:=oM (bV h 0)) (pi:=oP (bV h 0)) h a u b s (by rw [ho];rfl) (by rw [ho];rfl) rfl hu R9.2.2.2 hw R9.2.1 R9.1 hs.1) ?_
 exact ⟨rfl,rfl⟩
theorem MD (h:ap) (m:Nat) (x:aV) (p:Nat) (z:aQ) (hs:oV h) (ha:ku h) (hx:h.ai[m]? = some x) (hz:x.ak[p]? = some z) (h1:z.aN= -1):eH Tryz.prog 295 (⟨true,aq h⟩) [.one (.ptr ⟨1000001,[],0⟩),I m,I p] (zx (aq (cB h m p)) (.mj [])):=by
 refine eH.w 72 Tryz.func295 fun w g0 _=> ?_
 have qh:Q (aj h):=hs.q
 obtain ⟨x1,t,l,hr,D5⟩:=y5 hs ha hx hz h1
 have hp8:=(aM.1 hz).1
 have jS:=hs.cK hx
 have WS:=jS.1
 have hml0:=(aM.1 hx).1
 have IY:cB h m p=xA (roomFor h) m p:=rfl
 refine bu (ug h).k ?_
 refine len ?_
 refine aB ?_ ?_ <;> intro hb
 ·have hf:fj h=[]:=List.length_eq_zero_iff.1 (by omega)
  obtain ⟨a,b,ho⟩:=y4 hs.2.1 hf
  obtain ⟨u,s,hu,hw,Qr,XV⟩:=pH ho
  clear Qr XV
  rw [ya hf ho] at hr IY
  have R9:=hs.cK hu
  refine qD 1000001 (De h a b u s ho hu hw hs) ?_
  skip
  have qk:Q (aj (cy h a b)):=hr.hs.q
  have hmk:=hr.hs.cK hr.hx
  have HO:=hmk.1
  have WT:=hmk.2.1
  have mg:=hr.hx
  have uk:=hr.hz
  have ht:=hr.ht
  have Lk:(fj (cy h a b))[0]? = some t:=by rw [hr.hf];rfl
  have hfl:0 < (fj (cy h a b)).length:=by rw [hr.hf];exact Nat.succ_pos _
  have qx:Q (bt x1):=⟨hr.hs.sm hr.hx⟩
  obtain ⟨y,hy⟩:∃ y,x1.Out[p]? = some y:=⟨_,bg (by omega)⟩
  have qy:Q (dP y):=⟨jW.h y (aH hy)⟩
  have hml:=(aM.1 mg).1
  have oQ:=(aM.1 uk).1
  have nW:m < ((cy h a b).ai.map bA).length:=by rw [aI];exact hml
  have AR:p < (x1.ak.map aT).length:=by rw [aI];exact oQ
  have Zg:=(aM.1 hy).1
  have hkm:=hr.hs.2.1
  rw [OT hr hy] at IY
  refine di ?_
  refine bu (ug (cy h a b)).k ?_
  refine di (m:=0) ?_ (by rw [aI];exact hfl)
  refine aL ‹_› ?_
  refine cI [16] [(0,0),(1,0),(2,0),(3,0),(4,0),(5,0),(6,0),(7,0),(8,0),(9,0),(10,0),(11,0),(12,0),(13,1),(14,0),(15,0),(16,1)] ?_
  refine aL ‹_› ?_
  refine aL ‹_› ?_
  refine di ?_
  refine aL ‹_› ?_
  refine aL ‹_› ?_
  refine bu (wu (cy h a b).au t y).k ?_
  refine aL ‹_› ?_
  refine aL ‹_› ?_
  refine di ?_
  refine aL ‹_› ?_
  refine aL ‹_› ?_
  refine cJ ?_
  refine cJ ?_
  refine di ?_
  refine cJ ?_
  refine aL ‹_› ?_
  refine cJ ?_
  refine cJ ?_
  refine di ?_
  refine cJ ?_
  refine aL ‹_› ?_
  refine qD 1000001 (jJ (row:=MB (cy h a b) m x1 p y t) (vP (cy h a b) m x1 p y t) m (AY x1 p t) p (KU (cy h a b) m x1 p y t) (dS mg) hmk.2.2.2 (HM hr.hs mg qy.h)) ?_
  exact (by rw [IY];exact ⟨rfl,rfl⟩)
 ·rw [B2 (fun e=>by rw [e] at hb;simp at hb)] at hr IY
  have qk:Q (aj h):=hr.hs.q
  have hmk:=hr.hs.cK hr.hx
  have HO:=hmk.1
  have WT:=hmk.2.1
  have mg:=hr.hx
  have uk:=hr.hz
  have ht:=hr.ht
  have Lk:(fj h)[0]? = some t:=by rw [hr.hf];rfl
  have hfl:0 < (fj h).length:=by rw [hr.hf];exact Nat.succ_pos _
  have qx:Q (bt x1):=⟨hr.hs.sm hr.hx⟩
  obtain ⟨y,hy⟩:∃ y,x1.Out[p]? = some y:=⟨_,bg (by omega)⟩
  have qy:Q (dP y):=⟨jW.h y (aH hy)⟩
  have hml:=(aM.1 mg).1
  have oQ:=(aM.1 uk).1
  have nW:m < (h.ai.map bA).length:=by rw [aI];exact hml
  have AR:p < (x1.ak.map aT).length:=by rw [aI];exact oQ
  have Zg:=(aM.1 hy).1
  have hkm:=hr.hs.2.1
  rw [OT hr hy] at IY
  refine di ?_
  refine bu (ug h).k ?_
  refine di (m:=0) ?_ (by rw [aI];exact hfl)
  refine aL ‹_› ?_
  refine cI [16] [(0,0),(1,0),(2,0),(3,0),(4,0),(5,0),(6,0),(7,0),(8,0),(9,0),(10,0),(11,0),(12,0),(13,1),(14,0),(15,0),(16,1)] ?_
  refine aL ‹_› ?_
  refine aL ‹_› ?_
  refine di ?_
  refine aL ‹_› ?_
  refine aL ‹_› ?_
  refine bu (wu h.au t y).k ?_
  refine aL ‹_› ?_
  refine aL ‹_› ?_
  refine di ?_
  refine aL ‹_› ?_
  refine aL ‹_› ?_
  refine cJ ?_
  refine cJ ?_
  refine di ?_
  refine cJ ?_
  refine aL ‹_› ?_
  refine cJ ?_
  refine cJ ?_
  refine di ?_
  refine cJ ?_
  refine aL ‹_› ?_
  refine qD 1000001 (jJ (row:=MB h m x1 p y t) (vP h m x1 p y t) m (AY x1 p t) p (KU h m x1 p y t) (dS mg) hmk.2.2.2 (HM hr.hs mg qy.h)) ?_
  exact (by rw [IY];exact ⟨rfl,rfl⟩)
theorem ME (h:ap) (m:Nat) (x:aV) (p:Nat) (z:aQ) (hs:oV h) (ha:ku h) (hx:h.ai[m]? = some x) (hz:x.ak[p]? = some z) (h1:z.aN= -1):ng Tryz.prog 432 (aq h) [.one (.agg [.ref ⟨1000000,[],0⟩, .ref ⟨1000000,[],1⟩, .ref ⟨1000000,[],2⟩, .ref ⟨1000000,[],3⟩]),I m,I p] (RG [.a (aq (cB h m p))]):=by
 refine ng.w 56 Tryz.func432 fun w g0 _=> ?_
 have qh:Q (aj h):=hs.q
 obtain ⟨x1,t,l,hr,D5⟩:=y5 hs ha hx hz h1
 have hp8:=(aM.1 hz).1
 have jS:=hs.cK hx
 have WS:=jS.1
 have hml0:=(aM.1 hx).1
 have IY:cB h m p=xA (roomFor h) m p:=rfl
 refine bu (lB h).k ?_
 refine len ?_
 refine aB ?_ ?_ <;> intro hb
 ·have hf:fj h=[]:=List.length_eq_zero_iff.1 (by omega)
  obtain ⟨a,b,ho⟩:=y4 hs.2.1 hf
  obtain ⟨u,s,hu,hw,Qr,XV⟩:=pH ho
  clear Qr XV
  rw [ya hf ho] at hr IY
  have R9:=hs.cK hu
  refine an (nV h 0).k ?_
  refine kf [(1000000,0),(1000000,1),(1000000,2),(1000000,3)] (HN (mi:=oM (bV h 0)) (pi:=oP (bV h 0)) (row:=aq h) h a u b s (by rw [ho];rfl) (by rw [ho];rfl) rfl hu R9.2.2.2 hw R9.2.1 R9.1 hs.1) ?_
  skip
  have qk:Q (aj (cy h a b)):=hr.hs.q
  have hmk:=hr.hs.cK hr.hx
  have HO:=hmk.1
  have WT:=hmk.2.1
  have mg:=hr.hx
  have uk:=hr.hz
  have ht:=hr.ht
  have Lk:(fj (cy h a b))[0]? = some t:=by rw [hr.hf];rfl
  have hfl:0 < (fj (cy h a b)).length:=by rw [hr.hf];exact Nat.succ_pos _
  have qx:Q (bt x1):=⟨hr.hs.sm hr.hx⟩
  obtain ⟨y,hy⟩:∃ y,x1.Out[p]? = some y:=⟨_,bg (by omega)⟩
  have qy:Q (dP y):=⟨jW.h y (aH hy)⟩
  have hml:=(aM.1 mg).1
  have oQ:=(aM.1 uk).1
  have nW:m < ((cy h a b).ai.map bA).length:=by rw [aI];exact hml
  have AR:p < (x1.ak.map aT).length:=by rw [aI];exact oQ
  have Zg:=(aM.1 hy).1
  have hkm:=hr.hs.2.1
  rw [tG hr hy] at IY
  refine bu (lB (cy h a b)).k ?_
  refine di (m:=0) ?_ (by rw [aI];exact hfl)
  refine aL ‹_› ?_
  refine cI [14] [(0,0),(1,0),(2,0),(3,0),(4,0),(5,0),(6,0),(7,0),(8,0),(9,0),(10,0),(11,0),(12,1),(13,0),(14,1)] ?_
  refine di ?_
  refine aL ‹_› ?_
  refine aL ‹_› ?_
  refine di ?_
  refine aL ‹_› ?_
  refine aL ‹_› ?_
  refine bu (nF (cy h a b).au t y).k ?_
  refine di ?_
  refine aL ‹_› ?_
  refine aL ‹_› ?_
  refine di ?_
  refine aL ‹_› ?_
  refine aL ‹_› ?_
  refine kf [(3,0),(3,1),(3,2),(3,3)] (kp (row:=KT (cy h a b) m x1 p y t) (vO (cy h a b) m x1 p y t) m (wH x1 p) p z ⟨t,3⟩ (B6 (cy h a b) m x1 p y t) (dS mg) hmk.2.2.2 uk (sR hr.hs mg qy.h).1) ?_
  exact (by rw [IY];rfl)
 ·rw [B2 (fun e=>by rw [e] at hb;simp at hb)] at hr IY
  have qk:Q (aj h):=hr.hs.q
  have hmk:=hr.hs.cK hr.hx
  have HO:=hmk.1
  have WT:=hmk.2.1
  have mg:=hr.hx
  have uk:=hr.hz
  have ht:=hr.ht
  have Lk:(fj h)[0]? = some t:=by rw [hr.hf];rfl
  have hfl:0 < (fj h).length:=by rw [hr.hf];exact Nat.succ_pos _
  have qx:Q (bt x1):=⟨hr.hs.sm hr.hx⟩
  obtain ⟨y,hy⟩:∃ y,x1.Out[p]? = some y:=⟨_,bg (by omega)⟩
  have qy:Q (dP y):=⟨jW.h y (aH hy)⟩
  have hml:=(aM.1 mg).1
  have oQ:=(aM.1 uk).1
  have nW:m < (h.ai.map bA).length:=by rw [aI];exact hml
  have AR:p < (x1.ak.map aT).length:=by rw [aI];exact oQ
  have Zg:=(aM.1 hy).1
  have hkm:=hr.hs.2.1
  rw [tG hr hy] at IY
  refine bu (lB h).k ?_
  refine di (m:=0) ?_ (by rw [aI];exact hfl)
  refine aL ‹_› ?_
  refine cI [14] [(0,0),(1,0),(2,0),(3,0),(4,0),(5,0),(6,0),(7,0),(8,0),(9,0),(10,0),(11,0),(12,1),(13,0),(14,1)] ?_
  refine di ?_
  refine aL ‹_› ?_
  refine aL ‹_› ?_
  refine di ?_
  refine aL ‹_› ?_
  refine aL ‹_› ?_
  refine bu (nF h.au t y).k ?_
  refine di ?_
  refine aL ‹_› ?_
  refine aL ‹_› ?_
  refine di ?_
  refine aL ‹_› ?_
  refine aL ‹_› ?_
  refine kf [(3,0),(1000000,1),(1000000,2),(1000000,3)] (kp (row:=KT h m x1 p y t) (vO h m x1 p y t) m (wH x1 p) p z ⟨t,3⟩ (B6 h m x1 p y t) (dS mg) hmk.2.2.2 uk (sR hr.hs mg qy.h).1) ?_
  exact (by rw [IY];rfl)
end
end Go.Proofs.YtdliggkohdnipaaGreat.T
