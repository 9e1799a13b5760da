import Derived.Test.YtdliggkohdnipaaGreatRvq
set_option linter.unusedVariables false
set_option linter.unusedSimpArgs false
namespace Go.Proofs.YtdliggkohdnipaaGreat.T
open Go
section
variable {io:Bool} {g m need p ag q:Int} {o:Option aQ} {y:ax} {h:ap} {k:cE} {x:aV}
set_option maxRecDepth 100000
set_option maxHeartbeats 8000000
theorem mh {row:List D} {mi pi:Int} (h:ap) (m:Nat) (x:aV) (p:Nat) (z:aQ) (need:Int) (CA:mi=m) (Hh:pi=p) (hr:row=aq h) (hn:0 ≤ need∧need ≤ 3) (hs:oV h) (ha:ku h) (hx:h.ai[m]? = some x) (hz:x.ak[p]? = some z) (uo:XT z):
  eH Tryz.prog 288 ⟨true,row⟩ [.one (.ptr ⟨1000001,[],0⟩),I mi,I pi,I need] (zx (aq (cP h m p need)) (.mj [])):=by
 subst hr CA Hh
 exact OY h m x p z need hn hs ha hx hz uo
abbrev hD (h:ap) (m q need:Int):ap:=pO h m.toNat q.toNat need
abbrev hF (h:ap) (m g ag q need:Int):ap:=filled (hD h m q need) m.toNat g.toNat ag q.toNat need
abbrev sF (h:ap) (m g ag q need:Int):aQ:=(ask (kept (hF h m g ag q need) m.toNat g.toNat) ag).getD bE
abbrev eF (h:ap) (m g ag q need:Int):bP:=⟨cq m g,ag,(sF h m g ag q need).aN,(sF h m g ag q need).bf⟩
theorem zf (hx:h.ai[m.toNat]? = some x) (hn:need=2):vR h m.toNat x q.toNat=aq (hD h m q need):=by
 unfold hD pO
 rw [if_pos hn,yc hx]
 exact jh h m.toNat x q.toNat
theorem zg (hn:¬ need=2):aq h=aq (hD h m q need):=by
 unfold hD pO
 rw [if_neg hn]
theorem yj (hh:(cR (qG h io) (cq m g) ag).isSome=false ∨ fS ((cR (qG h io) (cq m g) ag).getD Oa).bf need=false):oH h io m g ag need=none:=by
 unfold oH
 cases e:cR (qG h io) (cq m g) ag with
 | none=>rfl
 | some s=>
  rw [e] at hh
  rcases hh with hh|hh
  cases hh
  show Option.filter _ (some s)=none
  rw [Option.filter_some,if_neg]
  have hh:fS s.bf need=false:=hh
  rw [hh]
  decide
theorem Zt (h1:(cR (qG h io) (cq m g) ag).isSome=true) (h2:fS ((cR (qG h io) (cq m g) ag).getD Oa).bf need=true):oH h io m g ag need=some ((cR (qG h io) (cq m g) ag).getD Oa):=by
 unfold oH
 cases e:cR (qG h io) (cq m g) ag with
 | none=>rw [e] at h1;cases h1
 | some s=>
  rw [e] at h2
  have h2:fS s.bf need=true:=h2
  show Option.filter _ (some s)=some s
  rw [Option.filter_some,if_pos h2]
theorem O_ (h1:eu h=true) (h2:(lS h m).isSome=true) (h3:0 ≤ g∧g < (e9 h m).aa.length):cM h m g=true:=by
 have h4:0 ≤ m:=by
  unfold lS m5 at h2
  split at h2
  assumption
  cases h2
 have h5:m.toNat < h.ai.length:=by
  unfold lS m5 at h2
  rw [if_pos h4] at h2
  cases hh:h.ai[m.toNat]? with
  | none=>rw [hh] at h2;cases h2
  | some x=>exact (aM.1 hh).1
 rw [H7 h4] at h3
 exact bW.2 ⟨h1,⟨h4,by omega⟩,h3⟩
theorem Ip {p:Prop} (h1:eu h=false):¬ (cM h m g=true∧p):=fun e=>by rw [(bW.1 e.1).1] at h1;cases h1
theorem Q5 {p:Prop} (h1:(lS h m).isSome=false):¬ (cM h m g=true∧p):=fun e=>by
 have h2:=(bW.1 e.1).2.1
 unfold lS m5 at h1
 rw [if_pos h2.1,cO h2] at h1
 cases h1
theorem Q6 {p:Prop} (h1:¬ (0 ≤ g∧g < (e9 h m).aa.length)):¬ (cM h m g=true∧p):=fun e=>by
 have h2:=(bW.1 e.1).2
 rw [H7 h2.1.1] at h1
 exact h1 h2.2
theorem zi {t:List aQ} {n:Int} (h:(bB t p n).isSome=true):bB t p n=some ((bB t p n).getD (-1)):=by
 cases e:bB t p n with
 | none=>rw [e] at h;cases h
 | some q=>rfl
theorem FK (hn:cM h m g=true∧(need=1 ∨ need=2)) (hy:dB h m.toNat g.toNat=y) (hq:(bB y.Live ag need).isSome=false):find h m g ag need io=none:=by
 rw [vU hn,hy]
 cases e:bB y.Live ag need with
 | none=>rfl
 | some q=>rw [e] at hq;cases hq
theorem FL (hn:cM h m g=true∧(need=1 ∨ need=2)) (hq:bB (dB h m.toNat g.toNat).Live ag need=some q) (h1:(cR (qG (hD h m q need) io) (cq m g) ag).isSome=true) (h2:fS ((cR (qG (hD h m q need) io) (cq m g) ag).getD Oa).bf need=true):
  find h m g ag need io=some (hD h m q need,((cR (qG (hD h m q need) io) (cq m g) ag).getD Oa).Host):=by
 have h3:=bW.1 hn.1
 rw [vU hn,hq]
 show some (wk _ _ _ _ _ _ _)=_
 rw [Dj h3.2.1.1 h3.2.2.1 (Zt h1 h2)]
theorem va (hn:cM h m g=true∧(need=1 ∨ need=2)) (hq:bB (dB h m.toNat g.toNat).Live ag need=some q) (h1:oH (hD h m q need) io m g ag need=none):
  find h m g ag need io=some (pz (hF h m g ag q need) io (ic (qG (hF h m g ag q need) io) (eF h m g ag q need)),(sF h m g ag q need).aN):=by
 have h3:=bW.1 hn.1
 rw [vU hn,hq]
 show some (wk _ _ _ _ _ _ _)=_
 rw [QX h3.2.1.1 h3.2.2.1 h1 rfl rfl]
 rfl
theorem vb (h1:o.isSome=true) (h2:¬ (o.getD bE).aN= -1) (h3:fS (o.getD bE).bf need=true):lets o need=true:=by
 cases o with
 | none=>cases h1
 | some s=>
  have h2:s.aN ≠ -1:=h2
  show (decide (s.aN ≠ -1) && fS s.bf need)=true
  rw [decide_eq_true h2]
  exact h3
theorem jm (h:o.isSome=false ∨ (o.getD bE).aN= -1 ∨ fS (o.getD bE).bf need=false):lets o need=false:=by
 cases o with
 | none=>rfl
 | some s=>
  show (decide (s.aN ≠ -1) && fS s.bf need)=false
  rcases h with h|h|h
  cases h
  have h:s.aN= -1:=h
  rw [decide_eq_false (by simp [h])]
  rfl
  have h:fS s.bf need=false:=h
  rw [h,jt]
def Cq (x:aV) (g:Nat) (k:cE):aV:={ x with Tables:=x.Tables.set g k }
abbrev tO (h:ap) (m:Nat) (x:aV) (g:Nat) (k:cE):List D:=[.sl 1 (h.au.map aP), .sl 9 ((h.ai.map bA).set m (.st [.sl 2 (x.ak.map aT), .sl 1 (x.Out.map aP), .sl 1 (x.bI.map bO), .sl 15 (x.aa.map bp), .sl 1 (x.cm.map bS), .v (.int .i64 x.av), .v (.int .i64 x.bn), .sl 2 ((x.Tables.map cz).set g (.st [.sl 1 (k.cG.map bO), .sl 2 (k.dQ.map aT)])), .v (.int .i64 x.Own)])), .sl 4 (h.Buffer.map aC), .sl 4 (h.aD.map aC)]
theorem kU (h:ap) (m:Nat) (x:aV) (g:Nat) (k:cE):tO h m x g k=aq { h with ai:=h.ai.set m (Cq x g k) }:=by
 have e:bA (Cq x g k)= .st [.sl 2 (x.ak.map aT), .sl 1 (x.Out.map aP), .sl 1 (x.bI.map bO), .sl 15 (x.aa.map bp), .sl 1 (x.cm.map bS), .v (.int .i64 x.av), .v (.int .i64 x.bn), .sl 2 ((x.Tables.map cz).set g (.st [.sl 1 (k.cG.map bO), .sl 2 (k.dQ.map aT)])), .v (.int .i64 x.Own)]:=by
  show D.st [_,_,_,_,_,_,_, .sl 2 ((x.Tables.set g k).map cz),_]=_
  rw [bL]
  rfl
 unfold tO
 show _=[_,D.sl 9 ((h.ai.set m (Cq x g k)).map bA),_,_]
 rw [bL,e]
structure MS (h:ap) (m g:Nat) (ag:Int) (q:Nat) (need:Int) (x:aV) (k:cE) (y:ax):Prop where
 hs:oV (cP h m q need)
 hx:(cP h m q need).ai[m]? = some x
 hk:x.Tables[g]? = some k
 hy:x.aa[g]? = some y
 hf:lets (ask (kept h m g) ag) need=false→filled h m g ag q need={ cP h m q need with ai:=(cP h m q need).ai.set m (Cq x g (eX k y.Live x.ak ag)) }∧kept (filled h m g ag q need) m g=eX k y.Live x.ak ag
theorem Dr {h:ap} {m g:Nat} {ag:Int} {q:Nat} {need:Int} {x:aV} {z:aQ} {k:cE} {y:ax} (hk:Zm h m g q x z k y):∃ x2 k2,MS h m g ag q need x2 k2 y:=by
 have hs:=OX (need:=need) hk.hs hk.ha hk.hx hk.hz
 obtain ⟨x2,h2,h3⟩:=Di (need:=need) hk.hs hk.ha hk.hx hk.hz m x hk.hx
 have h4:=hs.cK h2
 have h5:=(aM.1 hk.hy).1
 have h6:g < x2.Tables.length:=by rw [h4.2.2.2,h3];exact h5
 have h7:x2.Tables[g]? = some (x2.Tables[g]'h6):=bg h6
 have h8:x2.aa[g]? = some y:=by rw [h3];exact hk.hy
 refine ⟨x2,_,hs,h2,h7,h8,fun hl=> ?_⟩
 have h9:=QY (q:=q) hl h2 h7 h8
 refine ⟨h9, ?_⟩
 rw [h9]
 exact vT (dS h2) (dS h7)
theorem Xg {a b:List aQ} (hk:dR k):dR (eX k a b p):=by
 unfold eX
 split
 exact hk
 split
 exact ⟨by show (put _ _ _).length ≤ _;rw [pV];exact hk.1,by show (put _ _ _).length ≤ _;rw [pV];exact hk.2⟩
 exact hk
theorem A8 {m g:Nat} {q:Nat} {z:aQ} (hk:Zm h m g q x z k y):oV (filled h m g ag q need):=by
 cases hl:lets (ask (kept h m g) ag) need with
 | true=>rw [pP hl];exact hk.hs
 | false=>
  obtain ⟨x2,k2,h2⟩:= @Dr h m g ag q need x z k y hk
  rw [(h2.hf hl).1]
  have h3:=h2.hs.sm h2.hx
  have h4:=h2.hs.cK h2.hx
  refine FA h2.hs ⟨h3.1,h3.2.1,h3.2.2.1,h3.2.2.2.1,h3.2.2.2.2.1,⟨by show (x2.Tables.set _ _).length ≤ _;rw [bD];exact h3.2.2.2.2.2.1,fun c hc=> ?_⟩⟩ ⟨h4.1,h4.2.1,h4.2.2.1,by show (x2.Tables.set _ _).length=_;rw [bD];exact h4.2.2.2⟩
  rcases lN hc with hc|rfl
  exact h3.2.2.2.2.2.2 c hc
  exact Xg (h3.2.2.2.2.2.2 k2 (aH h2.hk))
theorem JC (h:ap) (m:Int) (g:Int) (ag:Int) (need:Int) [Q (aj h)]:aF Tryz.prog 380 [A (aq h),I m,I g,I ag,I need,B false] (RG [.a (aq (((find h m g ag need false).map fun q=>q.1).getD h)), .c (.v (.int .i64 (((find h m g ag need false).map fun q=>q.2).getD (-1)))), .c (.v (.bool (find h m g ag need false).isSome))]):=by
 refine aF.wJ 200 Tryz.func380 fun w g0 hM=> ?_
 have eW:=hM.1.2.1.map
 refine JW.cut 4 [1,2,3,4,5] [] [12,15,16] (fun (_u:Unit)=>[.set 12 (.one (.ptr ⟨12,[],0⟩)), .set 15 (.one (.ptr ⟨15,[],0⟩)), .set 16 (.one (.ptr ⟨16,[],0⟩))]) (fun (_u:Unit)=>[(12,⟨true,[.own (.sl 1 []), .own (.sl 9 []), .own (.sl 4 []), .own (.sl 4 [])]⟩),(15,⟨true,[.own (.sl 1 (h.au.map aP)), .own (.sl 9 (h.ai.map bA)), .own (.sl 4 (h.Buffer.map aC)), .own (.sl 4 (h.aD.map aC))]⟩),(16,⟨true,[.own (.sl 2 ((e9 h m).ak.map aT)), .own (.sl 1 ((e9 h m).Out.map aP)), .own (.sl 1 ((e9 h m).bI.map bO)), .own (.sl 15 ((e9 h m).aa.map bp)), .own (.sl 1 ((e9 h m).cm.map bS)), .own (.v (.int .i64 (e9 h m).av)), .own (.v (.int .i64 (e9 h m).bn)), .own (.sl 2 ((e9 h m).Tables.map cz)), .own (.v (.int .i64 (e9 h m).Own))]⟩)]) (fun (_u:Unit)=>cM h m g=true∧(need=1 ∨ need=2)) (by exact rfl) ?_
 refine ⟨fun J1 sY=> ?_,fun _u vf=> ?_⟩
 ·refine an (aY h).k ?_
  refine an (rH h m).k ?_
  refine ah (gX _).k ?_
  refine aB ?_ ?_ <;> intro gK
  ·refine sY _ _ _ ?_
   exact (by rw [show find h m g ag need false=none from jl (by exact Ip (by simpa using gK))];rfl)
  ·refine aB ?_ ?_ <;> intro GO
   ·refine sY _ _ _ ?_
    exact (by rw [show find h m g ag need false=none from jl (by exact Q5 (by simpa using GO))];rfl)
   ·refine len ?_
    refine ah (bM _ _).k ?_
    refine aB ?_ ?_ <;> intro Ev
    ·refine sY _ _ _ ?_
     exact (by rw [show find h m g ag need false=none from jl (by exact Q6 (by simpa using Ev))];rfl)
    ·refine aB ?_ ?_ <;> intro hg18
     ·refine aB ?_ ?_ <;> intro hb
      ·refine sY _ _ _ ?_
       exact (by rw [show find h m g ag need false=none from jl (by intro e;omega)];rfl)
      ·refine sY _ _ _ ?_
       exact ⟨(),⟨O_ (by simpa using gK) (by simpa using GO) (by simpa using Ev),by omega⟩,(by repeat' first|exact rfl|constructor)⟩
     ·refine sY _ _ _ ?_
      exact ⟨(),⟨O_ (by simpa using gK) (by simpa using GO) (by simpa using Ev),by omega⟩,(by repeat' first|exact rfl|constructor)⟩
 have Iq:=bW.1 vf.1
 have zF:=H7 (h:=h) Iq.2.1.1
 have hx0:=cO Iq.2.1
 have oR:=eE Iq.1 hx0
 have hmo:=dZ oR
 obtain ⟨y,hy⟩:∃ y,(e9 h m).aa[g.toNat]? = some y:=⟨_,bg (by rw [zF];omega)⟩
 have qU:dB h m.toNat g.toNat=y:=kv hx0 (by rw [← zF];exact hy)
 have D5:bT y=true:=(by simp only [fy,bh] at oR;exact eY.1 oR.1.1.2 y (aH (by rw [← zF];exact hy)))
 have hml:=(aM.1 hx0).1
 have QC:=(aM.1 hy).1
 have u5:Q (bt (cK h m.toNat)):=⟨jW.h _ (aH hx0)⟩
 have qxo:Q (bt (e9 h m)):=(by rw [zF];exact u5)
 have qy:Q (aJ y):=⟨jW.h y (aH hy)⟩
 refine JW.cut 3 [1,2,3,4,5,12,15] [] [15,16] (fun (q:Int)=>[.set 18 (I q)]) (fun (q:Int)=>[(15,⟨true,[.own (.sl 1 ((hD h m q need).au.map aP)), .own (.sl 9 ((hD h m q need).ai.map bA)), .own (.sl 4 ((hD h m q need).Buffer.map aC)), .own (.sl 4 ((hD h m q need).aD.map aC))]⟩)]) (fun (q:Int)=>bB (dB h m.toNat g.toNat).Live ag need=some q∧0 ≤ q∧q < 8) (by exact rfl) ?_
 refine ⟨fun J2 Dk=> ?_,fun q hj2=> ?_⟩
 ·refine bl ?_
  refine aL ‹_› ?_
  refine an (mG y.Live ag need).k ?_
  refine aB ?_ ?_ <;> intro iz
  ·refine Dk _ _ _ ?_
   exact (by rw [show find h m g ag need false=none from FK vf qU ‹_›];rfl)
  ·have Q7:=zi (by assumption:(bB y.Live ag need).isSome=true)
   have Xh:=pN D5 Q7
   refine aB ?_ ?_ <;> intro tr
   ·refine bl ?_
    refine aL ‹_› ?_
    refine aL ‹_› ?_
    refine bl ?_
    refine aL ‹_› ?_
    refine sn (fun z5 hz5 qz5 lz5=> ?_)
    refine Dk _ _ _ ?_
    exact ⟨((bB y.Live ag need).getD (-1)),⟨by rw [qU];exact Q7,Xh⟩,(by repeat' first|exact rfl|constructor|(refine dL ?_;exact congrArg (fun l:List D=>(⟨true,l.map C.own⟩:Rt)) (zf (by exact hx0) (by omega));done))⟩
   ·refine Dk _ _ _ ?_
    exact ⟨((bB y.Live ag need).getD (-1)),⟨by rw [qU];exact Q7,Xh⟩,(by repeat' first|exact rfl|constructor|(refine dL ?_;exact congrArg (fun l:List D=>(⟨true,l.map C.own⟩:Rt)) (zg (by omega));done))⟩
 have Xi:=(by assumption:Q (aj h)).h
 obtain ⟨x,z,k,y2,fE,Zo⟩:=y7 (need:=need) vf.1 Xi hj2.2
 have qd:Q (aj (hD h m q need)):=fE.hs.q
 refine JW.cut 4 [1,2,3,4,12,15,18] [] [] (fun (_u:Unit)=>[.set 20 (.one (.ptr ⟨15,[],2⟩)), .set 21 (I (cq m g))]) (fun (_u:Unit)=>[]) (fun (_u:Unit)=>oH (hD h m q need) false m g ag need=none) (by exact rfl) ?_
 refine ⟨fun J3 Q8=> ?_,fun _u Xj=> ?_⟩
 ·refine ah (rG m g).k ?_
  refine an (uZ (hD h m q need).Buffer (cq m g) ag).k ?_
  refine aB ?_ ?_ <;> intro hg1
  ·refine ah (fW _ _).k ?_
   refine aB ?_ ?_ <;> intro AJ
   ·refine gp [0,1,2,3] [] [] (.fork (.alt 0 (.fork (.alt 1 (.fork (.alt 2 (.fa 3 (.quiet 4 0 (.quiet 5 0 .done))) (.alt 3 (.fa 2 (.quiet 4 0 (.quiet 5 0 .done))) .stop))) (.alt 3 (.fa 1 (.fa 2 (.quiet 4 0 (.quiet 5 0 .done)))) .stop))) (.alt 1 (.fork (.alt 0 (.fork (.alt 2 (.fa 3 (.quiet 4 0 (.quiet 5 0 .done))) (.alt 3 (.fa 2 (.quiet 4 0 (.quiet 5 0 .done))) .stop))) (.alt 2 (.fa 0 (.fa 3 (.quiet 4 0 (.quiet 5 0 .done)))) .stop))) .stop))) ?_
    repeat' first|exact True.intro|refine And.intro ?_ ?_
    all_goals (
     refine Q8 _ _ _ ?_
     exact (by rw [show find h m g ag need false=_ from FL vf hj2.1 ‹_› ‹_›];rfl))
   ·refine Q8 _ _ _ ?_
    exact ⟨(),(yj (by right;assumption)),(by repeat' first|exact rfl|constructor)⟩
  ·refine Q8 _ _ _ ?_
   exact ⟨(),(yj (by left;assumption)),(by repeat' first|exact rfl|constructor)⟩
 obtain ⟨x2,k2,hme⟩:=Dr (ag:=ag) (need:=need) fE
 have hkk:=vT fE.hx fE.hk
 have qk:Q (dR k):=⟨(fE.hs.sm fE.hx).2.2.2.2.2.2 k (aH fE.hk)⟩
 have qk2:Q (dR k2):=⟨(hme.hs.sm hme.hx).2.2.2.2.2.2 k2 (aH hme.hk)⟩
 have qm:Q (aj (cP (hD h m q need) m.toNat q.toNat need)):=hme.hs.q
 have qx2:Q (bt x2):=⟨hme.hs.sm hme.hx⟩
 have hax:(hD h m q need).ai[m.toNat]? = some x:=fE.hx
 have hak:=fE.hk
 have I4:(cP (hD h m q need) m.toNat q.toNat need).ai[m.toNat]? = some x2:=hme.hx
 have hbk:=hme.hk
 have hby:=hme.hy
 have qx1:Q (bt x):=⟨fE.hs.sm fE.hx⟩
 have l1:=(aM.1 hax).1
 have l2:=(aM.1 hak).1
 have l3:=(aM.1 I4).1
 have l4:=(aM.1 hbk).1
 have l5:=(aM.1 hby).1
 have l6:m.toNat < ((cP (hD h m q need) m.toNat q.toNat need).ai.map bA).length:=by rw [aI];exact l3
 have l7:g.toNat < (x2.Tables.map cz).length:=by rw [aI];exact l4
 refine JW.cut 2 [3,12,13,14,15,20,21] [] [15,24] (fun (_u:Unit)=>[.set 24 (.one (.ptr ⟨24,[],0⟩))]) (fun (_u:Unit)=>[(15,⟨true,[.own (.sl 1 ((hF h m g ag q need).au.map aP)), .own (.sl 9 ((hF h m g ag q need).ai.map bA)), .own (.sl 4 ((hF h m g ag q need).Buffer.map aC)), .own (.sl 4 ((hF h m g ag q need).aD.map aC))]⟩),(24,⟨true,[.own (.v (.int .i64 (sF h m g ag q need).aN)), .own (.v (.int .i64 (sF h m g ag q need).bf))]⟩)]) (fun (_u:Unit)=>True) (by exact rfl) ?_
 refine ⟨fun J4 MT=> ?_,fun _u Zu=> ?_⟩
 ·refine bl ?_
  refine aL ‹_› ?_
  refine aL ‹_› ?_
  refine bl ?_
  refine aL ‹_› ?_
  refine aL ‹_› ?_
  refine an (me k ag).k ?_
  refine aB ?_ ?_ <;> intro oe
  ·refine qD 15 (mh (mi:=m) (pi:=q) (row:=aq (hD h m q need)) (hD h m q need) m.toNat x q.toNat z need (by omega) (by omega) rfl (by omega) fE.hs fE.ha fE.hx fE.hz fE.uo) ?_
   refine bl ?_
   refine cI [27] [(0,0),(1,0),(2,0),(3,0),(4,0),(5,0),(6,0),(7,0),(8,0),(9,0),(10,0),(11,0),(12,0),(13,0),(14,0),(15,0),(16,0),(17,0),(18,0),(19,0),(20,0),(21,0),(22,0),(23,0),(24,0),(25,1),(26,0),(27,1)] ?_
   refine aL ‹_› ?_
   refine aL ‹_› ?_
   refine aL ‹_› ?_
   refine bl ?_
   refine aL ‹_› ?_
   refine aL ‹_› ?_
   refine aL ‹_› ?_
   refine aL ‹_› ?_
   refine bl ?_
   refine aL ‹_› ?_
   refine aL ‹_› ?_
   refine aL ‹_› ?_
   refine an (oa k2 y2.Live x2.ak ag).k ?_
   refine aL ‹_› ?_
   refine bl ?_
   refine aL ‹_› ?_
   refine aL ‹_› ?_
   refine cJ ?_
   refine cJ ?_
   refine bl ?_
   refine cJ ?_
   refine cJ ?_
   refine an (me (eX k2 y2.Live x2.ak ag) ag).k ?_ (by repeat first|exact rfl|refine fi.mk (by exact WD.w) ?_|refine cJ ?_)
   refine MT _ _ _ ?_
   exact ⟨(),trivial,(by repeat' first|exact rfl|constructor|(refine dL ?_;first|exact congrArg (fun l:List D=>(⟨true,l.map C.own⟩:Rt)) ((kU _ _ _ _ _).trans (congrArg aq (hme.hf (jm (by rw [hkk];(left;assumption)))).1.symm))|(unfold sF;rw [(hme.hf (jm (by rw [hkk];(left;assumption)))).2]);done))⟩
  ·refine aB ?_ ?_ <;> intro GO
   ·refine qD 15 (mh (mi:=m) (pi:=q) (row:=aq (hD h m q need)) (hD h m q need) m.toNat x q.toNat z need (by omega) (by omega) rfl (by omega) fE.hs fE.ha fE.hx fE.hz fE.uo) ?_
    refine bl ?_
    refine cI [27] [(0,0),(1,0),(2,0),(3,0),(4,0),(5,0),(6,0),(7,0),(8,0),(9,0),(10,0),(11,0),(12,0),(13,0),(14,0),(15,0),(16,0),(17,0),(18,0),(19,0),(20,0),(21,0),(22,0),(23,0),(24,0),(25,1),(26,0),(27,1)] ?_
    refine aL ‹_› ?_
    refine aL ‹_› ?_
    refine aL ‹_› ?_
    refine bl ?_
    refine aL ‹_› ?_
    refine aL ‹_› ?_
    refine aL ‹_› ?_
    refine aL ‹_› ?_
    refine bl ?_
    refine aL ‹_› ?_
    refine aL ‹_› ?_
    refine aL ‹_› ?_
    refine an (oa k2 y2.Live x2.ak ag).k ?_
    refine aL ‹_› ?_
    refine bl ?_
    refine aL ‹_› ?_
    refine aL ‹_› ?_
    refine cJ ?_
    refine cJ ?_
    refine bl ?_
    refine cJ ?_
    refine cJ ?_
    refine an (me (eX k2 y2.Live x2.ak ag) ag).k ?_ (by repeat first|exact rfl|refine fi.mk (by exact WD.w) ?_|refine cJ ?_)
    refine MT _ _ _ ?_
    exact ⟨(),trivial,(by repeat' first|exact rfl|constructor|(refine dL ?_;first|exact congrArg (fun l:List D=>(⟨true,l.map C.own⟩:Rt)) ((kU _ _ _ _ _).trans (congrArg aq (hme.hf (jm (by rw [hkk];(right;left;assumption)))).1.symm))|(unfold sF;rw [(hme.hf (jm (by rw [hkk];(right;left;assumption)))).2]);done))⟩
   ·refine ah (fW _ _).k ?_
    refine aB ?_ ?_ <;> intro D0
    ·refine qD 15 (mh (mi:=m) (pi:=q) (row:=aq (hD h m q need)) (hD h m q need) m.toNat x q.toNat z need (by omega) (by omega) rfl (by omega) fE.hs fE.ha fE.hx fE.hz fE.uo) ?_
     refine bl ?_
     refine cI [27] [(0,0),(1,0),(2,0),(3,0),(4,0),(5,0),(6,0),(7,0),(8,0),(9,0),(10,0),(11,0),(12,0),(13,0),(14,0),(15,0),(16,0),(17,0),(18,0),(19,0),(20,0),(21,0),(22,0),(23,0),(24,0),(25,1),(26,0),(27,1)] ?_
     refine aL ‹_› ?_
     refine aL ‹_› ?_
     refine aL ‹_› ?_
     refine bl ?_
     refine aL ‹_› ?_
     refine aL ‹_› ?_
     refine aL ‹_› ?_
     refine aL ‹_› ?_
     refine bl ?_
     refine aL ‹_› ?_
     refine aL ‹_› ?_
     refine aL ‹_› ?_
     refine an (oa k2 y2.Live x2.ak ag).k ?_
     refine aL ‹_› ?_
     refine bl ?_
     refine aL ‹_› ?_
     refine aL ‹_› ?_
     refine cJ ?_
     refine cJ ?_
     refine bl ?_
     refine cJ ?_
     refine cJ ?_
     refine an (me (eX k2 y2.Live x2.ak ag) ag).k ?_ (by repeat first|exact rfl|refine fi.mk (by exact WD.w) ?_|refine cJ ?_)
     refine MT _ _ _ ?_
     exact ⟨(),trivial,(by repeat' first|exact rfl|constructor|(refine dL ?_;first|exact congrArg (fun l:List D=>(⟨true,l.map C.own⟩:Rt)) ((kU _ _ _ _ _).trans (congrArg aq (hme.hf (jm (by rw [hkk];(right;right;assumption)))).1.symm))|(unfold sF;rw [(hme.hf (jm (by rw [hkk];(right;right;assumption)))).2]);done))⟩
    ·refine MT _ _ _ ?_
     exact ⟨(),trivial,(by repeat' first|exact rfl|constructor|(refine dL ?_;first|(unfold hF;rw [pP (by rw [hkk];exact vb ‹_› ‹_› ‹_›)])|(unfold sF hF;rw [pP (by rw [hkk];exact vb ‹_› ‹_› ‹_›),hkk]);done))⟩
 have qf:Q (aj (hF h m g ag q need)):=(A8 (ag:=ag) (need:=need) fE).q
 refine JW.w ?_
 refine cI [13] [(0,0),(1,0),(2,0),(3,0),(4,0),(5,0),(6,0),(7,0),(8,0),(9,0),(10,0),(11,1),(12,0),(13,1)] ?_
 refine bu (wG (hF h m g ag q need).Buffer (eF h m g ag q need)).k ?_
 refine gp [0,1,2,3] [] [] (.fork (.alt 0 (.fork (.alt 1 (.fork (.alt 2 (.fa 3 (.quiet 4 0 (.quiet 5 0 .done))) (.alt 3 (.fa 2 (.quiet 4 0 (.quiet 5 0 .done))) .stop))) (.alt 3 (.fa 1 (.fa 2 (.quiet 4 0 (.quiet 5 0 .done)))) .stop))) (.alt 1 (.fork (.alt 0 (.fork (.alt 2 (.fa 3 (.quiet 4 0 (.quiet 5 0 .done))) (.alt 3 (.fa 2 (.quiet 4 0 (.quiet 5 0 .done))) .stop))) (.alt 2 (.fa 0 (.fa 3 (.quiet 4 0 (.quiet 5 0 .done)))) .stop))) .stop))) ?_
 repeat' first|exact True.intro|refine And.intro ?_ ?_
 all_goals exact (by rw [show find h m g ag need false=_ from va vf hj2.1 Xj];rfl)
theorem Ir (h:ap) (m:Int) (g:Int) (ag:Int) (need:Int) [Q (aj h)]:aF Tryz.prog 380 [A (aq h),I m,I g,I ag,I need,B true] (RG [.a (aq (((find h m g ag need true).map fun q=>q.1).getD h)), .c (.v (.int .i64 (((find h m g ag need true).map fun q=>q.2).getD (-1)))), .c (.v (.bool (find h m g ag need true).isSome))]):=by
 refine aF.wJ 200 Tryz.func380 fun w g0 hM=> ?_
 have eW:=hM.1.2.1.map
 refine JW.cut 4 [1,2,3,4,5] [] [12,15,16] (fun (_u:Unit)=>[.set 12 (.one (.ptr ⟨12,[],0⟩)), .set 15 (.one (.ptr ⟨15,[],0⟩)), .set 16 (.one (.ptr ⟨16,[],0⟩))]) (fun (_u:Unit)=>[(12,⟨true,[.own (.sl 1 []), .own (.sl 9 []), .own (.sl 4 []), .own (.sl 4 [])]⟩),(15,⟨true,[.own (.sl 1 (h.au.map aP)), .own (.sl 9 (h.ai.map bA)), .own (.sl 4 (h.Buffer.map aC)), .own (.sl 4 (h.aD.map aC))]⟩),(16,⟨true,[.own (.sl 2 ((e9 h m).ak.map aT)), .own (.sl 1 ((e9 h m).Out.map aP)), .own (.sl 1 ((e9 h m).bI.map bO)), .own (.sl 15 ((e9 h m).aa.map bp)), .own (.sl 1 ((e9 h m).cm.map bS)), .own (.v (.int .i64 (e9 h m).av)), .own (.v (.int .i64 (e9 h m).bn)), .own (.sl 2 ((e9 h m).Tables.map cz)), .own (.v (.int .i64 (e9 h m).Own))]⟩)]) (fun (_u:Unit)=>cM h m g=true∧(need=1 ∨ need=2)) (by exact rfl) ?_
 refine ⟨fun J1 sY=> ?_,fun _u vf=> ?_⟩
 ·refine an (aY h).k ?_
  refine an (rH h m).k ?_
  refine ah (gX _).k ?_
  refine aB ?_ ?_ <;> intro gK
  ·refine sY _ _ _ ?_
   exact (by rw [show find h m g ag need true=none from jl (by exact Ip (by simpa using gK))];rfl)
  ·refine aB ?_ ?_ <;> intro GO
   ·refine sY _ _ _ ?_
    exact (by rw [show find h m g ag need true=none from jl (by exact Q5 (by simpa using GO))];rfl)
   ·refine len ?_
    refine ah (bM _ _).k ?_
    refine aB ?_ ?_ <;> intro Ev
    ·refine sY _ _ _ ?_
     exact (by rw [show find h m g ag need true=none from jl (by exact Q6 (by simpa using Ev))];rfl)
    ·refine aB ?_ ?_ <;> intro hg18
     ·refine aB ?_ ?_ <;> intro hb
      ·refine sY _ _ _ ?_
       exact (by rw [show find h m g ag need true=none from jl (by intro e;omega)];rfl)
      ·refine sY _ _ _ ?_
       exact ⟨(),⟨O_ (by simpa using gK) (by simpa using GO) (by simpa using Ev),by omega⟩,(by repeat' first|exact rfl|constructor)⟩
     ·refine sY _ _ _ ?_
      exact ⟨(),⟨O_ (by simpa using gK) (by simpa using GO) (by simpa using Ev),by omega⟩,(by repeat' first|exact rfl|constructor)⟩
 have Iq:=bW.1 vf.1
 have zF:=H7 (h:=h) Iq.2.1.1
 have hx0:=cO Iq.2.1
 have oR:=eE Iq.1 hx0
 have hmo:=dZ oR
 obtain ⟨y,hy⟩:∃ y,(e9 h m).aa[g.toNat]? = some y:=⟨_,bg (by rw [zF];omega)⟩
 have qU:dB h m.toNat g.toNat=y:=kv hx0 (by rw [← zF];exact hy)
 have D5:bT y=true:=(by simp only [fy,bh] at oR;exact eY.1 oR.1.1.2 y (aH (by rw [← zF];exact hy)))
 have hml:=(aM.1 hx0).1
 have QC:=(aM.1 hy).1
 have u5:Q (bt (cK h m.toNat)):=⟨jW.h _ (aH hx0)⟩
 have qxo:Q (bt (e9 h m)):=(by rw [zF];exact u5)
 have qy:Q (aJ y):=⟨jW.h y (aH hy)⟩
 refine JW.cut 3 [1,2,3,4,5,12,15] [] [15,16] (fun (q:Int)=>[.set 18 (I q)]) (fun (q:Int)=>[(15,⟨true,[.own (.sl 1 ((hD h m q need).au.map aP)), .own (.sl 9 ((hD h m q need).ai.map bA)), .own (.sl 4 ((hD h m q need).Buffer.map aC)), .own (.sl 4 ((hD h m q need).aD.map aC))]⟩)]) (fun (q:Int)=>bB (dB h m.toNat g.toNat).Live ag need=some q∧0 ≤ q∧q < 8) (by exact rfl) ?_
 refine ⟨fun J2 Dk=> ?_,fun q hj2=> ?_⟩
 ·refine bl ?_
  refine aL ‹_› ?_
  refine an (mG y.Live ag need).k ?_
  refine aB ?_ ?_ <;> intro iz
  ·refine Dk _ _ _ ?_
   exact (by rw [show find h m g ag need true=none from FK vf qU ‹_›];rfl)
  ·have Q7:=zi (by assumption:(bB y.Live ag need).isSome=true)
   have Xh:=pN D5 Q7
   refine aB ?_ ?_ <;> intro tr
   ·refine bl ?_
    refine aL ‹_› ?_
    refine aL ‹_› ?_
    refine bl ?_
    refine aL ‹_› ?_
    refine sn (fun z5 hz5 qz5 lz5=> ?_)
    refine Dk _ _ _ ?_
    exact ⟨((bB y.Live ag need).getD (-1)),⟨by rw [qU];exact Q7,Xh⟩,(by repeat' first|exact rfl|constructor|(refine dL ?_;exact congrArg (fun l:List D=>(⟨true,l.map C.own⟩:Rt)) (zf (by exact hx0) (by omega));done))⟩
   ·refine Dk _ _ _ ?_
    exact ⟨((bB y.Live ag need).getD (-1)),⟨by rw [qU];exact Q7,Xh⟩,(by repeat' first|exact rfl|constructor|(refine dL ?_;exact congrArg (fun l:List D=>(⟨true,l.map C.own⟩:Rt)) (zg (by omega));done))⟩
 have Xi:=(by assumption:Q (aj h)).h
 obtain ⟨x,z,k,y2,fE,Zo⟩:=y7 (need:=need) vf.1 Xi hj2.2
 have qd:Q (aj (hD h m q need)):=fE.hs.q
 refine JW.cut 4 [1,2,3,4,12,15,18] [] [] (fun (_u:Unit)=>[.set 20 (.one (.ptr ⟨15,[],3⟩)), .set 21 (I (cq m g))]) (fun (_u:Unit)=>[]) (fun (_u:Unit)=>oH (hD h m q need) true m g ag need=none) (by exact rfl) ?_
 refine ⟨fun J3 Q8=> ?_,fun _u Xj=> ?_⟩
 ·refine ah (rG m g).k ?_
  refine an (uZ (hD h m q need).aD (cq m g) ag).k ?_
  refine aB ?_ ?_ <;> intro hg1
  ·refine ah (fW _ _).k ?_
   refine aB ?_ ?_ <;> intro AJ
   ·refine gp [0,1,2,3] [] [] (.fork (.alt 0 (.fork (.alt 1 (.fork (.alt 2 (.fa 3 (.quiet 4 0 (.quiet 5 0 .done))) (.alt 3 (.fa 2 (.quiet 4 0 (.quiet 5 0 .done))) .stop))) (.alt 3 (.fa 1 (.fa 2 (.quiet 4 0 (.quiet 5 0 .done)))) .stop))) (.alt 1 (.fork (.alt 0 (.fork (.alt 2 (.fa 3 (.quiet 4 0 (.quiet 5 0 .done))) (.alt 3 (.fa 2 (.quiet 4 0 (.quiet 5 0 .done))) .stop))) (.alt 2 (.fa 0 (.fa 3 (.quiet 4 0 (.quiet 5 0 .done)))) .stop))) .stop))) ?_
    repeat' first|exact True.intro|refine And.intro ?_ ?_
    all_goals (
     refine Q8 _ _ _ ?_
     exact (by rw [show find h m g ag need true=_ from FL vf hj2.1 ‹_› ‹_›];rfl))
   ·refine Q8 _ _ _ ?_
    exact ⟨(),(yj (by right;assumption)),(by repeat' first|exact rfl|constructor)⟩
  ·refine Q8 _ _ _ ?_
   exact ⟨(),(yj (by left;assumption)),(by repeat' first|exact rfl|constructor)⟩
 obtain ⟨x2,k2,hme⟩:=Dr (ag:=ag) (need:=need) fE
 have hkk:=vT fE.hx fE.hk
 have qk:Q (dR k):=⟨(fE.hs.sm fE.hx).2.2.2.2.2.2 k (aH fE.hk)⟩
 have qk2:Q (dR k2):=⟨(hme.hs.sm hme.hx).2.2.2.2.2.2 k2 (aH hme.hk)⟩
 have qm:Q (aj (cP (hD h m q need) m.toNat q.toNat need)):=hme.hs.q
 have qx2:Q (bt x2):=⟨hme.hs.sm hme.hx⟩
 have hax:(hD h m q need).ai[m.toNat]? = some x:=fE.hx
 have hak:=fE.hk
 have I4:(cP (hD h m q need) m.toNat q.toNat need).ai[m.toNat]? = some x2:=hme.hx
 have hbk:=hme.hk
 have hby:=hme.hy
 have qx1:Q (bt x):=⟨fE.hs.sm fE.hx⟩
 have l1:=(aM.1 hax).1
 have l2:=(aM.1 hak).1
 have l3:=(aM.1 I4).1
 have l4:=(aM.1 hbk).1
 have l5:=(aM.1 hby).1
 have l6:m.toNat < ((cP (hD h m q need) m.toNat q.toNat need).ai.map bA).length:=by rw [aI];exact l3
 have l7:g.toNat < (x2.Tables.map cz).length:=by rw [aI];exact l4
 refine JW.cut 2 [3,12,13,14,15,20,21] [] [15,24] (fun (_u:Unit)=>[.set 24 (.one (.ptr ⟨24,[],0⟩))]) (fun (_u:Unit)=>[(15,⟨true,[.own (.sl 1 ((hF h m g ag q need).au.map aP)), .own (.sl 9 ((hF h m g ag q need).ai.map bA)), .own (.sl 4 ((hF h m g ag q need).Buffer.map aC)), .own (.sl 4 ((hF h m g ag q need).aD.map aC))]⟩),(24,⟨true,[.own (.v (.int .i64 (sF h m g ag q need).aN)), .own (.v (.int .i64 (sF h m g ag q need).bf))]⟩)]) (fun (_u:Unit)=>True) (by exact rfl) ?_
 refine ⟨fun J4 MT=> ?_,fun _u Zu=> ?_⟩
 ·refine bl ?_
  refine aL ‹_› ?_
  refine aL ‹_› ?_
  refine bl ?_
  refine aL ‹_› ?_
  refine aL ‹_› ?_
  refine an (me k ag).k ?_
  refine aB ?_ ?_ <;> intro oe
  ·refine qD 15 (mh (mi:=m) (pi:=q) (row:=aq (hD h m q need)) (hD h m q need) m.toNat x q.toNat z need (by omega) (by omega) rfl (by omega) fE.hs fE.ha fE.hx fE.hz fE.uo) ?_
   refine bl ?_
   refine cI [27] [(0,0),(1,0),(2,0),(3,0),(4,0),(5,0),(6,0),(7,0),(8,0),(9,0),(10,0),(11,0),(12,0),(13,0),(14,0),(15,0),(16,0),(17,0),(18,0),(19,0),(20,0),(21,0),(22,0),(23,0),(24,0),(25,1),(26,0),(27,1)] ?_
   refine aL ‹_› ?_
   refine aL ‹_› ?_
   refine aL ‹_› ?_
   refine bl ?_
   refine aL ‹_› ?_
   refine aL ‹_› ?_
   refine aL ‹_› ?_
   refine aL ‹_› ?_
   refine bl ?_
   refine aL ‹_› ?_
   refine aL ‹_› ?_
   refine aL ‹_› ?_
   refine an (oa k2 y2.Live x2.ak ag).k ?_
   refine aL ‹_› ?_
   refine bl ?_
   refine aL ‹_› ?_
   refine aL ‹_› ?_
   refine cJ ?_
   refine cJ ?_
   refine bl ?_
   refine cJ ?_
   refine cJ ?_
   refine an (me (eX k2 y2.Live x2.ak ag) ag).k ?_ (by repeat first|exact rfl|refine fi.mk (by exact WD.w) ?_|refine cJ ?_)
   refine MT _ _ _ ?_
   exact ⟨(),trivial,(by repeat' first|exact rfl|constructor|(refine dL ?_;first|exact congrArg (fun l:List D=>(⟨true,l.map C.own⟩:Rt)) ((kU _ _ _ _ _).trans (congrArg aq (hme.hf (jm (by rw [hkk];(left;assumption)))).1.symm))|(unfold sF;rw [(hme.hf (jm (by rw [hkk];(left;assumption)))).2]);done))⟩
  ·refine aB ?_ ?_ <;> intro GO
   ·refine qD 15 (mh (mi:=m) (pi:=q) (row:=aq (hD h m q need)) (hD h m q need) m.toNat x q.toNat z need (by omega) (by omega) rfl (by omega) fE.hs fE.ha fE.hx fE.hz fE.uo) ?_
    refine bl ?_
    refine cI [27] [(0,0),(1,0),(2,0),(3,0),(4,0),(5,0),(6,0),(7,0),(8,0),(9,0),(10,0),(11,0),(12,0),(13,0),(14,0),(15,0),(16,0),(17,0),(18,0),(19,0),(20,0),(21,0),(22,0),(23,0),(24,0),(25,1),(26,0),(27,1)] ?_
    refine aL ‹_› ?_
    refine aL ‹_› ?_
    refine aL ‹_› ?_
    refine bl ?_
    refine aL ‹_› ?_
    refine aL ‹_› ?_
    refine aL ‹_› ?_
    refine aL ‹_› ?_
    refine bl ?_
    refine aL ‹_› ?_
    refine aL ‹_› ?_
    refine aL ‹_› ?_
    refine an (oa k2 y2.Live x2.ak ag).k ?_
    refine aL ‹_› ?_
    refine bl ?_
    refine aL ‹_› ?_
    refine aL ‹_› ?_
    refine cJ ?_
    refine cJ ?_
    refine bl ?_
    refine cJ ?_
    refine cJ ?_
    refine an (me (eX k2 y2.Live x2.ak ag) ag).k ?_ (by repeat first|exact rfl|refine fi.mk (by exact WD.w) ?_|refine cJ ?_)
    refine MT _ _ _ ?_
    exact ⟨(),trivial,(by repeat' first|exact rfl|constructor|(refine dL ?_;first|exact congrArg (fun l:List D=>(⟨true,l.map C.own⟩:Rt)) ((kU _ _ _ _ _).trans (congrArg aq (hme.hf (jm (by rw [hkk];(right;left;assumption)))).1.symm))|(unfold sF;rw [(hme.hf (jm (by rw [hkk];(right;left;assumption)))).2]);done))⟩
   ·refine ah (fW _ _).k ?_
    refine aB ?_ ?_ <;> intro D0
    ·refine qD 15 (mh (mi:=m) (pi:=q) (row:=aq (hD h m q need)) (hD h m q need) m.toNat x q.toNat z need (by omega) (by omega) rfl (by omega) fE.hs fE.ha fE.hx fE.hz fE.uo) ?_
     refine bl ?_
     refine cI [27] [(0,0),(1,0),(2,0),(3,0),(4,0),(5,0),(6,0),(7,0),(8,0),(9,0),(10,0),(11,0),(12,0),(13,0),(14,0),(15,0),(16,0),(17,0),(18,0),(19,0),(20,0),(21,0),(22,0),(23,0),(24,0),(25,1),(26,0),(27,1)] ?_
     refine aL ‹_› ?_
     refine aL ‹_› ?_
     refine aL ‹_› ?_
     refine bl ?_
     refine aL ‹_› ?_
     refine aL ‹_› ?_
     refine aL ‹_› ?_
     refine aL ‹_› ?_
     refine bl ?_
     refine aL ‹_› ?_
     refine aL ‹_› ?_
     refine aL ‹_› ?_
     refine an (oa k2 y2.Live x2.ak ag).k ?_
     refine aL ‹_› ?_
     refine bl ?_
     refine aL ‹_› ?_
     refine aL ‹_› ?_
     refine cJ ?_
     refine cJ ?_
     refine bl ?_
     refine cJ ?_
     refine cJ ?_
     refine an (me (eX k2 y2.Live x2.ak ag) ag).k ?_ (by repeat first|exact rfl|refine fi.mk (by exact WD.w) ?_|refine cJ ?_)
     refine MT _ _ _ ?_
     exact ⟨(),trivial,(by repeat' first|exact rfl|constructor|(refine dL ?_;first|exact congrArg (fun l:List D=>(⟨true,l.map C.own⟩:Rt)) ((kU _ _ _ _ _).trans (congrArg aq (hme.hf (jm (by rw [hkk];(right;right;assumption)))).1.symm))|(unfold sF;rw [(hme.hf (jm (by rw [hkk];(right;right;assumption)))).2]);done))⟩
    ·refine MT _ _ _ ?_
     exact ⟨(),trivial,(by repeat' first|exact rfl|constructor|(refine dL ?_;first|(unfold hF;rw [pP (by rw [hkk];exact vb ‹_› ‹_› ‹_›)])|(unfold sF hF;rw [pP (by rw [hkk];exact vb ‹_› ‹_› ‹_›),hkk]);done))⟩
 have qf:Q (aj (hF h m g ag q need)):=(A8 (ag:=ag) (need:=need) fE).q
 refine JW.w ?_
 refine cI [13] [(0,0),(1,0),(2,0),(3,0),(4,0),(5,0),(6,0),(7,0),(8,0),(9,0),(10,0),(11,1),(12,0),(13,1)] ?_
 refine bu (wG (hF h m g ag q need).aD (eF h m g ag q need)).k ?_
 refine gp [0,1,2,3] [] [] (.fork (.alt 0 (.fork (.alt 1 (.fork (.alt 2 (.fa 3 (.quiet 4 0 (.quiet 5 0 .done))) (.alt 3 (.fa 2 (.quiet 4 0 (.quiet 5 0 .done))) .stop))) (.alt 3 (.fa 1 (.fa 2 (.quiet 4 0 (.quiet 5 0 .done)))) .stop))) (.alt 1 (.fork (.alt 0 (.fork (.alt 2 (.fa 3 (.quiet 4 0 (.quiet 5 0 .done))) (.alt 3 (.fa 2 (.quiet 4 0 (.quiet 5 0 .done))) .stop))) (.alt 2 (.fa 0 (.fa 3 (.quiet 4 0 (.quiet 5 0 .done)))) .stop))) .stop))) ?_
 repeat' first|exact True.intro|refine And.intro ?_ ?_
 all_goals exact (by rw [show find h m g ag need true=_ from va vf hj2.1 Xj];rfl)
end
end Go.Proofs.YtdliggkohdnipaaGreat.T
