import Derived.Test.YtdliggkohdnipaaGreatHqq
set_option linter.unusedVariables false
set_option linter.unusedSimpArgs false
namespace Go.Proofs.YtdliggkohdnipaaGreat.T
open Go
abbrev jX (n a b:Int):Bool:=decide (a ≤ n∧n ≤ b)
def fS (r n:Int):Bool:=jX r 0 3 && jX n 0 3 && decide (s5 r n=n)
def kz (i:bZ):Bool:=
 if i.Op=1 ∨ i.Op=2 ∨ i.Op=5 ∨ i.Op=6 then jX i.X 0 99 else if i.Op=3 ∨ i.Op=4 then jX i.X 0 15 else if i.Op=7 then decide (i.X=0) else if i.Op=8 then jX i.X 0 11 else false
def vw (p:List bZ):Bool:=p.all kz && jX p.length 1 12
def jb (s:aQ) (pages:Int):Bool:=decide (s=⟨-1,0⟩) || (decide (0 < pages) && jX s.aN 0 (pages - 1) && jX s.bf 1 3)
def kL (t:List aQ) (size pages:Int):Bool:=t.all (jb · pages) && decide ((t.length:Int)=size)
def aR (c:qY):List Int:=
 (if jX c.bn 0 3 then [] else [1]) ++ (if jX c.Post 0 255 then [] else [2]) ++ (if c.Post ≠ 0∧c.Open=false then [3] else []) ++ (if c.bn=2∧c.Post ≠ 0 then [4] else [])
def BE (c:qY):Bool:=decide ((aR c).length=0)
def ga (e:qE):Bool:=
 if e.Kind=0 ∨ e.Kind=4 then decide (e.aN=0) && !e.Write && decide (e.N=0) else if e.Kind=1 then jX e.aN 0 3 && decide (e.N=0)
 else if e.Kind=2 ∨ e.Kind=3 then jX e.N 0 99 && decide (e.aN=0) && !e.Write else false
abbrev su (p:Int):Bool:=jX p 0 255
def jx (c:List Int):Bool:=c.all (jX · 0 99) && decide (c.length=4)
def tg (m:List (List Int)) (pages:Int):Bool:=m.all jx && decide ((m.length:Int)=pages)
def bT (g:ax):Bool:=
 vw g.Prog && jX g.A 0 99 && jX g.Pc 0 12 && kL g.Written 4 8 && kL g.Live 4 8 && BE g.jv && su g.av && ga g.Exit && decide (g.Seen.length ≤ 40)
def dg (b:aS):Bool:=b.aa.all bT && tg b.au 8 && jX b.aa.length 1 2 && decide (b.cm.length ≤ 40) && su b.av
abbrev bE:aQ:=⟨-1,0⟩
abbrev V9:aV:=⟨[],[],[],[],[],0,0,[],0⟩
def sv (x:aV) (i:Nat):Bool:=match x.ak[i]?,x.Out[i]? with
 | some s,some p=>if s=bE then jx p else decide (p.length=0) && fS s.bf 1
 | _,_=>false
def gP (x:aV):Bool:=jX x.aa.length 1 2 && decide (x.Tables.length=x.aa.length) && kL x.ak 8 12 && decide (x.Out.length=8) && decide (x.bI.length=8)
def kj (x:aV):Bool:=decide (x.cm.length ≤ 40) && su x.av && jX x.bn 0 3 && jX x.Own 0 1000000000
def fy (x:aV):Bool:=gP x && x.aa.all bT && (List.range 8).all (sv x) && kj x
def V_ (x y:bP):Bool:=decide (x.Tag=y.Tag∧x.aN=y.aN)
def Oa:bP:=⟨0,0,0,0⟩
def zO (b:List bP) (i k:Nat):Bool:=(List.range k).all fun j=> !V_ (b[i]?.getD Oa) (b[j]?.getD Oa)
def zP (b:List bP) (i:Nat):Bool:=(List.range i).all fun a=>zO b a a
def ni (b:List bP):Bool:=zP b b.length && decide (b.length ≤ 6)
abbrev noKept:cE:=⟨[],[]⟩
abbrev th:ax:=⟨[],0,0,[],[],⟨0,0,false⟩,0,⟨0,0,false,0⟩,false,[]⟩
abbrev L0:aS:=⟨[],[],[],0⟩
abbrev GH:ap:=⟨[],[],[],[]⟩
def m5 {α:Type} (xs:List α) (i:Int):Option α:=if 0 ≤ i then xs[i.toNat]? else none
def put {α:Type} (xs:List α) (i:Int) (x: α):List α:=if 0 ≤ i then xs.set i.toNat x else xs
def brought (n a b:Int):Int:=if b < a ∨ n < a then a else if n > b then b else n
def jP (a b:Int):Int:=if jX a 0 3 && jX b 0 3 then s5 a b else 0
def cA (w:Bool):Int:=if w then 2 else 1
def gI (n:Nat):List aQ:=List.replicate n bE
def fB (t:List aQ) (n:Int):aQ:=(m5 t n).getD bE
def BF (t:List aQ) (ag:Int) (k:Nat):Bool:=decide ((t[k]?.getD bE).aN=ag)
def kk (t:List aQ) (ag:Int):List Int:=dn (BF t ag) t.length
def jc (n:Nat):List (List Int):=List.replicate n [0,0,0,0]
def cellAt (m:List (List Int)) (p c:Int):Int:=((m5 m p).bind fun r=>m5 r c).getD 0
def eR (m:List (List Int)) (p c v:Int):List (List Int):=match m5 m p with
 | none=>m
 | some r=>if jX v 0 99 then put m p (put r c v) else m
def eZ (m:List (List Int)) (n:Int):List Int:=(m5 m n).getD [0,0,0,0]
def fG (m:List (List Int)) (p:Int) (cells:List Int):List (List Int):=if jx cells then put m p cells else m
def fI (inner:aQ) (outer:List aQ):aQ:=
 if inner.aN= -1 ∨ (fB outer inner.aN).aN= -1 ∨ jP inner.bf (fB outer inner.aN).bf=0 then bE else ⟨(fB outer inner.aN).aN,jP inner.bf (fB outer inner.aN).bf⟩
def bB (inner:List aQ) (ag need:Int):Option Int:=
 if (fB inner ag).aN= -1 ∨ fS (fB inner ag).bf need=false ∨ need=0 then none else some (fB inner ag).aN
def bz (a:Int):Int:=if a < 0 then -1 else a.tdiv 4
def b6 (a:Int):Int:=if a < 0 then -1 else a.tmod 4
def mC:cE:=⟨List.replicate 4 false,List.replicate 4 bE⟩
def fk (k:cE) (ag:Int):Bool:=decide (0 ≤ ag∧ag < k.cG.length∧ag < k.dQ.length)
def eX (k:cE) (inner outer:List aQ) (ag:Int):cE:=match m5 inner ag with
 | none=>k
 | some s=>if fk k ag then ⟨put k.cG ag true,put k.dQ ag (fI s outer)⟩ else k
def ask (k:cE) (ag:Int):Option aQ:=if fk k ag && (m5 k.cG ag).getD false then m5 k.dQ ag else none
def forget (k:cE) (ag:Int):cE:=if fk k ag then ⟨put k.cG ag false,put k.dQ ag bE⟩ else k
def iB (k:cE) (inner:List aQ) (ag:Int):cE:=(kk inner ag).foldl forget k
def iQ (k:cE):cE:=(dn (fun _=>true) k.cG.length).foldl forget k
def kM (tag ag:Int) (e:bP):Bool:=decide (e.Tag=tag) && decide (e.aN=ag)
def cR (b:List bP) (tag ag:Int):Option bP:=b.find? (kM tag ag)
def bU (b:List bP) (tag ag:Int):List bP:=b.filter fun e=> !kM tag ag e
def dc (b:List bP) (host:Int):List bP:=b.filter fun e=> !decide (e.Host=host)
def ic (b:List bP) (e:bP):List bP:=(bU b e.Tag e.aN ++ [e]).drop ((bU b e.Tag e.aN).length + 1 - 6)
def cq (m g:Int):Int:=if jX m 0 2 && jX g 0 1 then 1 + g + m * 2 else 0
def cV (p:List bZ) (pc:Int):bZ:=(m5 p pc).getD ⟨7,0⟩
def gb (zQ Wa:Int):Bool:=jX zQ 0 3 && jX Wa 1 2 && decide (s5 zQ Wa ≠ 0)
def bit (p n:Int):Bool:=decide (s5 (p.fdiv (2 ^ n.toNat)) 1=1)
def rq (c:qY) (n:Int):Bool:=BE c && jX n 0 7 && bit c.Post n
def jY (outer inner Wa:Int):Int:=if gb inner Wa then 1 else if gb outer Wa then 2 else 0
def iR (ag:Int) (w:Bool):qE:=⟨1,ag,w,0⟩
def lR (n:Int):qE:=⟨2,0,false,n⟩
def tj (n:Int):qE:=⟨3,0,false,n⟩
abbrev kN:qE:=⟨0,0,false,0⟩
abbrev sw:qE:=⟨4,0,false,0⟩
def fQ (p n:Int):Option Int:=if su p && jX n 0 7 then some (ior p (2 ^ n.toNat)) else none
def gV (p:Int):Nat→Int
 | 0=> -1
 | n + 1=>if bit p n then n else gV p n
def dH (p:Int):Int:=if su p then gV p 8 else -1
def gW (p:Int):Option (Int×Int):=if dH p < 0 then none else some (p - 2 ^ (dH p).toNat,dH p)
def qF (p:List bZ):ax:={ th with Prog:=p,Written:=gI 4,Live:=gI 4 }
def canRun (g:ax):Bool:=decide (g.Exit=kN) && !g.kg
def L1 (g:ax) (n:Int):ax:=if g.Seen.length < 40 then { g with Seen:=g.Seen ++ [n] } else g
def k7 (g:ax):Bool:=canRun g && g.jv.Open && decide (0 ≤ dH g.av)
def interrupted (g:ax):ax:=if k7 g then L1 { g with av:=g.av - 2 ^ (dH g.av).toNat } (100 + dH g.av) else g
def c8 (g:ax) (e:qE):ax:={ g with Exit:=e }
def aK (g:ax):Int:=
 if canRun g=false then 0 else if k7 g then 1 else if (cV g.Prog g.Pc).Op=3 then 3 else if (cV g.Prog g.Pc).Op=4 then 4 else if (cV g.Prog g.Pc).Op=5 then 5
 else if (cV g.Prog g.Pc).Op=6 then 6 else if (cV g.Prog g.Pc).Op=7 then 7 else 2
def fU (g:ax):ax:={ g with Pc:=if g.Pc ≥ 12 then 12 else g.Pc + 1 }
def ir (g:ax):ax:=
 if aK g ≠ 2 then g else
 let i:=cV g.Prog g.Pc
 if jX g.A 0 99 && jX i.X 0 99 then
  (if i.Op=1 then fU { g with A:=i.X } else if i.Op=2 then fU { g with A:=(g.A + i.X).tmod 100 } else if i.Op=8∧g.A=0 then { g with Pc:=i.X } else fU g)
 else fU g
def sx (g:ax) (v:Int):ax:=fU (L1 { g with A:=v } v)
def held (g:ax):ax:=fU { g with kg:=true }
def address (g:ax):Int:=if aK g=3 ∨ aK g=4 then (cV g.Prog g.Pc).X else -1
def b_ (b:aS) (g:Int) (x:ax):aS:={ b with aa:=put b.aa g x }
def sy (b:aS) (n:Int):aS:=if b.cm.length < 40 then { b with cm:=b.cm ++ [n] } else b
def ov (want:Int):Int:=if want=5 then 1 else 2
def ow (x:ax) (want:Int):ax:=if want=5 then c8 x (tj (cV x.Prog x.Pc).X) else c8 x sw
def rE (b:aS) (g:Int) (x:ax) (w:Bool):aS:=match bB x.Live (bz (address x)) (cA w) with
 | none=>b_ b g (c8 x (iR (bz (address x)) w))
 | some p=>if w then b_ { b with au:=eR b.au p (b6 (address x)) x.A } g (fU x) else b_ b g (sx x (cellAt b.au p (b6 (address x))))
def stepOf (b:aS) (g:Int) (x:ax):aS:=
 if aK x=1 then b_ b g (interrupted x) else if aK x=2 then b_ b g (ir x) else if aK x=3 then rE b g x false else if aK x=4 then rE b g x true
 else if aK x=6 then b_ b g (c8 x (lR (cV x.Prog x.Pc).X)) else if gb x.jv.bn (ov (aK x)) then b_ b g (ow x (aK x))
 else if aK x=5 then b_ (sy b (cV x.Prog x.Pc).X) g (fU x) else b_ b g (held x)
def iu (b:aS) (g:Int) (f:ax→Option ax):Option aS:=if dg b then (m5 b.aa g).bind fun x=>(f x).map (b_ b g) else none
def ox (b:aS) (g:Int):Option aS:=if dg b then (m5 b.aa g).bind fun x=>if aK x=0 then none else some (stepOf b g x) else none
def eN (b:aS) (g ag:Int) (s:aQ):Option aS:=iu b g fun x=>if jX ag 0 3 && jb s 8 then some { x with Written:=put x.Written ag s } else none
def ew (b:aS) (g ag:Int):Option aS:=iu b g fun x=>if jX ag 0 3 then some { x with Live:=put x.Live ag (fB x.Written ag) } else none
def cr (b:aS) (g v:Int):Option aS:=iu b g fun x=>if (x.Exit.Kind=2 ∨ x.Exit.Kind=3)∧jX v 0 99=true then some (fU (c8 (if x.Exit.Kind=2 then { x with A:=v } else x) kN)) else none
def ct (b:aS) (g:Int):Option aS:=iu b g fun x=>if x.Exit.Kind=1 then some (c8 x kN) else if x.Exit.Kind=4 then some (held (c8 x kN)) else none
def b7 (b:aS) (g n:Int):Option aS:=iu b g fun x=>(fQ x.av n).map fun p=>{ x with av:=p }
def eO (b:aS) (g:Int) (c:qY):Option aS:=iu b g fun x=>if BE c then some { x with jv:=c } else none
def iG (b:aS) (ag cell v:Int):Option aS:=if dg b && jX ag 0 7 && jX cell 0 3 && jX v 0 99 then some { b with au:=eR b.au ag cell v } else none
def pU (n:Int) (g:ax):ax:=if rq g.jv n then { g with av:=(fQ g.av n).getD g.av } else g
def cL (b:aS) (n:Int):Option aS:=
 if dg b && jX n 0 7 then some (if b.aa.any (fun g=>rq g.jv n) then { b with aa:=b.aa.map (pU n) } else { b with av:=(fQ b.av n).getD b.av }) else none
def gh (b:aS):Option (aS×Int):=if dg b then (gW b.av).map fun q=>({ b with av:=q.1 },q.2) else none
def pn (ps:List (List bZ)):aV:=⟨gI 8,jc 8,List.replicate 8 false,(ps.take 2).map qF,[],0,0,(ps.take 2).map fun _=>mC,0⟩
def gj (all:List (List (List bZ))):ap:=⟨jc 12,(all.take 3).map pn,[],[]⟩
def mD (t:List aQ):List Int:=(t.map fun s=>s.aN).filter fun p=>decide (0 ≤ p)
def gk (x:aV):List Int:=mD x.ak
def eu (h:ap):Bool:=tg h.au 12 && jX h.ai.length 1 3 && ni h.Buffer && ni h.aD && h.ai.all fy && decide (h.ai.flatMap gk).Nodup
abbrev lS (h:ap) (m:Int):Option aV:=m5 h.ai m
def nT (h:ap) (m n:Int):List Int:=match lS h m with
 | none=>[0,0,0,0]
 | some x=>if 0 ≤ n∧n ≤ 7 then (if (fB x.ak n).aN ≠ -1 then eZ h.au (fB x.ak n).aN else eZ x.Out n) else [0,0,0,0]
def lJ (h:ap) (m:Int) (i:Nat):List (List Int):=(List.range i).map fun (k:Nat)=>nT h m k
def b8 (h:ap) (m:Int):aS:=match lS h m with
 | none=>L0
 | some x=>⟨lJ h m 8,x.aa,x.cm,x.av⟩
def mE (h:ap):List aS:=(List.range h.ai.length).map fun (k:Nat)=>b8 h k
def save (h:ap):lF:=⟨mE h,h.ai.map fun x=>x.bn,h.ai.map fun x=>x.Own⟩
def cK (h:ap) (m:Nat):aV:=h.ai[m]?.getD V9
def fT (h:ap) (m:Nat) (x:aV):ap:={ h with ai:=h.ai.set m x }
def pu (h:ap) (m p:Nat):aQ:=(cK h m).ak[p]?.getD bE
def nA (t:List aQ) (ag:Int):Option Nat:=t.findIdx? fun s=>decide (s.aN=ag)
def fp (l:List aV) (ag:Int) (m:Nat):Option (Nat×Nat):=match l with
 | []=>none
 | x :: l=>match nA x.ak ag with|some p=>some (m,p)|none=>fp l ag (m + 1)
def bV (h:ap) (ag:Int):Option (Nat×Nat):=if 0 ≤ ag then fp h.ai ag 0 else none
def oU (h:ap) (p:Nat):Bool:=(bV h p).isNone
def fj (h:ap):List Int:=dn (oU h) h.au.length
def fm (x:aV) (ag:Int):List cE:=List.zipWith (fun k (g:ax)=>iB k g.Live ag) x.Tables x.aa
def tn (h:ap) (m p:Nat) (s:aQ):ap:=
 let x:=cK h m
 let old:=(pu h m p).aN
 {h with ai:=h.ai.set m { x with Tables:=fm x p,ak:=x.ak.set p s },Buffer:=if old= -1 then h.Buffer else dc h.Buffer old,aD:=if old= -1 then h.aD else dc h.aD old }
def xz (h:ap) (m p:Nat) (cells:List Int):ap:=fT h m { cK h m with Out:=(cK h m).Out.set p cells }
def lT (h:ap) (m p:Nat) (b:Bool):ap:=fT h m { cK h m with bI:=(cK h m).bI.set p b }
def cy (h:ap) (m p:Nat):ap:=tn (xz h m p (eZ h.au (pu h m p).aN)) m p bE
def roomFor (h:ap):ap:=match fj h with
 | []=>(match bV h 0 with|some (m,p)=>cy h m p|none=>h)
 | _=>h
def xA (h:ap) (m p:Nat):ap:=
 let to:=(fj h).headD 0
 tn (xz { h with au:=fG h.au to ((cK h m).Out[p]?.getD []) } m p []) m p ⟨to,3⟩
def cB (h:ap) (m p:Nat):ap:=xA (roomFor h) m p
def ee (h:ap) (m ag:Int):Bool:=eu h && decide (0 ≤ m∧m < h.ai.length) && jX ag 0 7
def jj (h:ap) (m ag:Int):Option ap:=if ee h m ag && decide ((pu h m.toNat ag.toNat).aN ≠ -1) then some (cy h m.toNat ag.toNat) else none
def m4 (h:ap) (m ag:Int):Option ap:=if ee h m ag && decide ((pu h m.toNat ag.toNat).aN= -1) then some (cB h m.toNat ag.toNat) else none
def xB (h:ap) (m p:Nat):ap:=if (pu h m p).aN= -1 then lT h m p false else tn (lT h m p false) m p ⟨(pu h m p).aN,1⟩
def guard (h:ap) (m ag:Int):Option ap:=if ee h m ag then some (xB h m.toNat ag.toNat) else none
def zB (h:ap) (m p:Nat):ap:=if s5 (pu h m p).bf 2=0 then tn (lT h m p true) m p ⟨(pu h m p).aN,3⟩ else lT h m p true
def cP (h:ap) (m p:Nat) (need:Int):ap:=
 let h1:=if (pu h m p).aN= -1 then cB h m p else h
 if s5 need 2=0 then h1 else zB h1 m p
def setTable (h:ap) (m g:Nat) (k:cE):ap:=fT h m { cK h m with Tables:=(cK h m).Tables.set g k }
def iH (h:ap) (m g:Nat) (u:ax):ap:=fT h m { cK h m with aa:=(cK h m).aa.set g u }
def qG (h:ap) (io:Bool):List bP:=if io then h.aD else h.Buffer
def pz (h:ap) (io:Bool) (b:List bP):ap:=if io then { h with aD:=b } else { h with Buffer:=b }
def kept (h:ap) (m g:Nat):cE:=(cK h m).Tables[g]?.getD noKept
def dB (h:ap) (m g:Nat):ax:=(cK h m).aa[g]?.getD th
def lets (s:Option aQ) (need:Int):Bool:=match s with|some s=>decide (s.aN ≠ -1) && fS s.bf need|none=>false
def filled (h:ap) (m g:Nat) (ag:Int) (q:Nat) (need:Int):ap:=
 if lets (ask (kept h m g) ag) need then h else
 let h1:=cP h m q need
 setTable h1 m g (eX (kept h1 m g) (dB h1 m g).Live (cK h1 m).ak ag)
def wk (h:ap) (m g:Nat) (ag need:Int) (io:Bool) (q:Nat):ap×Int:=
 let h0:=if need=2 then lT h m q true else h
 match (cR (qG h0 io) (cq m g) ag).filter (fun e=>fS e.bf need) with
 | some e=>(h0,e.Host)
 | none=>
  let h1:=filled h0 m g ag q need
  let s:=(ask (kept h1 m g) ag).getD bE
  (pz h1 io (ic (qG h1 io) ⟨cq m g,ag,s.aN,s.bf⟩),s.aN)
def cM (h:ap) (m g:Int):Bool:=eu h && decide (0 ≤ m∧m < h.ai.length) && decide (0 ≤ g∧g < (cK h m.toNat).aa.length)
def find (h:ap) (m g ag need:Int) (io:Bool):Option (ap×Int):=
 if cM h m g && (decide (need=1) || decide (need=2)) then (bB (dB h m.toNat g.toNat).Live ag need).map fun q=>wk h m.toNat g.toNat ag need io q.toNat else none
def GI (x:aV):aV:={ x with Tables:=x.Tables.map iQ }
def L2 (h:ap):ap:={ h with ai:=h.ai.map GI,Buffer:=[],aD:=[] }
def ie (h:ap) (m g:Nat) (x:ax) (w:Bool):ap:=match find h m g (bz (address x)) (cA w) false with
 | none=>iH h m g (c8 x (iR (bz (address x)) w))
 | some (h1,p)=>if w then iH { h1 with au:=eR h1.au p (b6 (address x)) x.A } m g (fU x) else iH h1 m g (sx x (cellAt h1.au p (b6 (address x))))
def Kz (x:aV):aV:=if x.Own < 1000000000 then { x with Own:=x.Own + 1 } else x
def xC (x:aV) (n:Int):aV:=if x.cm.length < 40 then { x with cm:=x.cm ++ [n] } else x
def qZ (x:aV) (g:Nat) (u:ax) (want:Int):aV:=
 let o:=jY x.bn u.jv.bn (ov want)
 if o=1 then { x with aa:=x.aa.set g (ow u want) } else
 let y:=if o=2 then Kz x else x
 if want=7 then { y with aa:=y.aa.set g (held u) } else
 let z:=xC y (cV u.Prog u.Pc).X
 {z with aa:=z.aa.set g (fU u) }
def iM (h:ap) (m g:Nat) (u:ax):ap:=
 if aK u=1 then iH h m g (interrupted u) else if aK u=2 then iH h m g (ir u) else if aK u=3 then ie h m g u false else if aK u=4 then ie h m g u true
 else if aK u=6 then iH h m g (c8 u (lR (cV u.Prog u.Pc).X)) else fT h m (qZ (cK h m) g u (aK u))
def cn (h:ap) (m g:Int):Option ap:=if cM h m g then (if aK (dB h m.toNat g.toNat)=0 then none else some (iM h m.toNat g.toNat (dB h m.toNat g.toNat))) else none
def dI (h:ap) (m:Int):Bool:=eu h && decide (0 ≤ m∧m < h.ai.length)
def jd (h:ap) (m zQ:Int):Option ap:=if dI h m && jX zQ 0 3 then some (fT h m.toNat { cK h m.toNat with bn:=zQ }) else none
def bR (x:aV):aS:=⟨jc 8,x.aa,x.cm,x.av⟩
def kO (h:ap) (m:Nat) (b:aS):ap:=fT h m { cK h m with aa:=b.aa,av:=b.av }
def bC (h:ap) (m:Int) (f:aS→Option aS):Option ap:=if dI h m then (f (bR (cK h m.toNat))).map (kO h m.toNat) else none
def dx (h:ap) (m g ag:Int):Option ap:=(bC h m fun b=>ew b g ag).map fun h1=>
 let h2:=setTable h1 m.toNat g.toNat (forget (kept h1 m.toNat g.toNat) ag)
 {h2 with Buffer:=bU h2.Buffer (cq m g) ag,aD:=bU h2.aD (cq m g) ag }
def jG (h:ap) (m ag cell v:Int):Option ap:=if ee h m ag && jX cell 0 3 && jX v 0 99 then
 (let h1:=cP h m.toNat ag.toNat 2
  some { h1 with au:=eR h1.au (pu h1 m.toNat ag.toNat).aN cell v }) else none
def dW (h:ap) (m:Int):Option (ap×Int):=if dI h m then (gh (bR (cK h m.toNat))).map fun q=>(kO h m.toNat q.1,q.2) else none
def kP (h:ap) (m g addr v:Int):Option ap:=if jX addr 0 15 && jX v 0 99 then (find h m g (bz addr) 2 true).map fun q=>{ q.1 with au:=eR q.1.au q.2 (b6 addr) v } else none
def gl (h:ap) (m g addr:Int):Option (ap×Int):=if jX addr 0 15 then (find h m g (bz addr) 1 true).map fun q=>(q.1,cellAt q.1.au q.2 (b6 addr)) else none
def vz (k:Int):Bool:=jX k 13 17
def KA (a:dF):Bool:=jX a.Kind 1 17
def DY (a:dF):qY:=⟨a.X,a.Y,decide (a.Z=1)⟩
def gE {α:Type} (x: α) (q:Option α): α×jE:=(q.getD x,⟨q.isSome,0⟩)
def L3 {α:Type} (x: α) (n:Int) (q:Option (α×Int)): α×jE:=match q with|some q=>(q.1,⟨true,q.2⟩)|none=>(x,⟨false,n⟩)
def aW (h:ap) (a:dF):ap×jE:=
 if a.Kind=1 then gE h (cn h a.M a.G)
 else if a.Kind=2 then gE h (bC h a.M fun b=>eN b a.G a.X ⟨a.Y,a.Z⟩)
 else if a.Kind=3 then gE h (dx h a.M a.G a.X)
 else if a.Kind=4 then gE h (bC h a.M fun b=>cr b a.G a.X)
 else if a.Kind=5 then gE h (bC h a.M fun b=>ct b a.G)
 else if a.Kind=6 then gE h (bC h a.M fun b=>b7 b a.G a.X)
 else if a.Kind=7 then gE h (bC h a.M fun b=>eO b a.G (DY a))
 else if a.Kind=8 then gE h (jG h a.M a.X a.Y a.Z)
 else if a.Kind=9 then gE h (bC h a.M fun b=>cL b a.X)
 else if a.Kind=10 then L3 h (-1) (dW h a.M)
 else if a.Kind=11 then gE h (kP h a.M a.G a.X a.Y)
 else if a.Kind=12 then L3 h 0 (gl h a.M a.G a.X)
 else if a.Kind=13 then gE h (jj h a.M a.X)
 else if a.Kind=14 then gE h (m4 h a.M a.X)
 else if a.Kind=15 then gE h (guard h a.M a.X)
 else if a.Kind=16 then gE h (jd h a.M a.X)
 else if a.Kind=17 then (L2 h,⟨true,0⟩)
 else (h,⟨false,0⟩)
def dJ {σ:Type} (f: σ→dF→ σ×jE) (aX:List dF) (s: σ): σ:=aX.foldl (fun s a=>(f s a).1) s
def toldOf {σ:Type} (f: σ→dF→ σ×jE):List dF→ σ→List jE
 | [],_=>[]
 | a :: l,s=>(f s a).2 :: toldOf f l (f s a).1
def je (all:List (List (List bZ))) (aX:List dF):ap×List jE:=(dJ aW (aX.take 80) (gj all),toldOf aW (aX.take 80) (gj all))
def lU (b:aS) (zQ own:Int):aV:=⟨gI 8,b.au,List.replicate 8 false,b.aa,b.cm,b.av,zQ,b.aa.map fun _=>mC,own⟩
def jH (s:lF):Bool:=jX s.ai.length 1 3 && decide (s.bn.length=s.ai.length) && decide (s.Own.length=s.ai.length) && s.ai.all dg && s.bn.all (jX · 0 3) && s.Own.all (jX · 0 1000000000)
def mF (s:lF) (n:Nat):List aV:=(List.range n).map fun k=>lU (s.ai[k]?.getD L0) (s.bn[k]?.getD 0) (s.Own[k]?.getD 0)
def nU (s:lF):Option ap:=if jH s then some ⟨jc 12,mF s s.ai.length,[],[]⟩ else none
def k8 (all:List (List (List bZ))) (aX:List dF) (at_:Int):ap×List jE:=
 let l:=aX.take 80
 let k:=(brought at_ 0 l.length).toNat
 let q:=je all (l.take k)
 let h:=(nU (save q.1)).getD q.1
 (dJ aW (l.drop k) h,q.2 ++ toldOf aW (l.drop k) h)
section
variable {i:Int}
set_option maxRecDepth 100000
set_option maxHeartbeats 1000000
instance:Q ((0:Int) ≤ 8∧(8:Int) ≤ 1000):=⟨by omega⟩
instance:Q ((0:Int) ≤ 12∧(12:Int) ≤ 1000):=⟨by omega⟩
theorem qH {α:Type} {xs:List α} {y: α} (h:0 ≤ i) (hy:xs[i.toNat]? = some y):m5 xs i=some y:=by unfold m5;rw [if_pos h,hy]
theorem q4 {α:Type} {xs:List α} (h:¬ (0 ≤ i∧i < xs.length)):m5 xs i=none:=by
 unfold m5
 split
 exact List.getElem?_eq_none (by omega)
 rfl
theorem vA {α:Type} {xs:List α} {y: α} (h:0 ≤ i):put xs i y=xs.set i.toNat y:=by unfold put;rw [if_pos h]
theorem BG {α:Type} {xs:List α} {y: α} (h:¬ (0 ≤ i∧i < xs.length)):put xs i y=xs:=by
 unfold put
 split
 exact List.set_eq_of_length_le (by omega)
 rfl
theorem pV {α:Type} {xs:List α} {y: α}:(put xs i y).length=xs.length:=by unfold put;split <;> simp
theorem aE (n:Int) (a:Int) (b:Int):aF Tryz.prog 177 [I n,I a,I b] (RV (.bool (jX n a b))):=by
 refine aF.w 15 Tryz.func177 fun w g0 _=> ?_
 refine aB ?_ ?_ <;> intro gK
 exact ay (by simp_all;done)
 exact ay (by simp_all;omega)
theorem aU (n:Int) (a:Int) (b:Int):aF Tryz.prog 78 [I n,I a,I b] (RV (.bool (jX n a b))):=by
 refine aF.w 15 Tryz.func78 fun w g0 _=> ?_
 refine aB ?_ ?_ <;> intro gK
 exact ay (by simp_all;done)
 exact ay (by simp_all;omega)
theorem bM (k:Int) (n:Int):aF Tryz.prog 97 [I k,I n] (RV (.bool (decide (0 ≤ k∧k < n)))):=by
 refine aF.w 12 Tryz.func97 fun w g0 _=> ?_
 refine aB ?_ ?_ <;> intro oe
 exact ay (by simp_all;done)
 exact ay (by simp_all;omega)
theorem xD (n:Int) (a:Int) (b:Int):aF Tryz.prog 140 [I n,I a,I b] (RV (.int .i64 (brought n a b))):=by
 refine aF.w 21 Tryz.func140 fun w g0 _=> ?_
 refine aB ?_ ?_ <;> intro gK
 exact ay (by simp_all [brought];done)
 refine aB ?_ ?_ <;> intro hb
 exact ay (by simp_all [brought];done)
 refine aB ?_ ?_ <;> intro iz
 exact ay (by simp_all [brought];omega)
 exact ay (by simp_all [brought];omega)
theorem xE (n:Int) (a:Int) (b:Int):aF Tryz.prog 72 [I n,I a,I b] (RV (.int .i64 (brought n a b))):=by
 refine aF.w 19 Tryz.func72 fun w g0 _=> ?_
 refine aB ?_ ?_ <;> intro gK
 exact ay (by simp_all [brought];done)
 refine aB ?_ ?_ <;> intro hb
 exact ay (by simp_all [brought];done)
 exact ay (by simp_all [brought];omega)
theorem nB (r:Int):aF Tryz.prog 491 [I r] (RV (.bool (jX r 0 3))):=by
 refine aF.w 5 Tryz.func491 fun w g0 _=> ?_
 refine ah (aE _ _ _).k ?_
 exact rfl
theorem nC (r:Int):aF Tryz.prog 324 [I r] (RV (.bool (jX r 0 3))):=by
 refine aF.w 5 Tryz.func324 fun w g0 _=> ?_
 refine ah (aU _ _ _).k ?_
 exact rfl
theorem BH (a:Int) (b:Int):aF Tryz.prog 501 [I a,I b] (RV (.int .i64 (jP a b))):=by
 refine aF.w 16 Tryz.func501 fun w g0 _=> ?_
 refine ah (nB _).k ?_
 refine aB ?_ ?_ <;> intro gK
 exact ay (by unfold jP;simp [*];done)
 refine ah (nB _).k ?_
 refine aB ?_ ?_ <;> intro hb
 exact ay (by unfold jP;simp [*];done)
 exact ay (by unfold jP;simp [*];done)
theorem BI (a:Int) (b:Int):aF Tryz.prog 505 [I a,I b] (RV (.int .i64 (jP a b))):=by
 refine aF.w 16 Tryz.func505 fun w g0 _=> ?_
 refine ah (nC _).k ?_
 refine aB ?_ ?_ <;> intro gK
 exact ay (by unfold jP;simp [*];done)
 refine ah (nC _).k ?_
 refine aB ?_ ?_ <;> intro hb
 exact ay (by unfold jP;simp [*];done)
 exact ay (by unfold jP;simp [*];done)
theorem lz (r:Int) (n:Int):aF Tryz.prog 458 [I r,I n] (RV (.bool (fS r n))):=by
 refine aF.w 18 Tryz.func458 fun w g0 _=> ?_
 refine ah (nB _).k ?_
 refine aB ?_ ?_ <;> intro oe
 refine ah (nB _).k ?_
 refine aB ?_ ?_ <;> intro YO
 exact ay (by refine congrArg Value.bool ?_;rw [dX];simp [fS];omega)
 exact ay (by simp_all [fS];omega)
 exact ay (by simp_all [fS];omega)
theorem fW (r:Int) (n:Int):aF Tryz.prog 210 [I r,I n] (RV (.bool (fS r n))):=by
 refine aF.w 18 Tryz.func210 fun w g0 _=> ?_
 refine ah (nC _).k ?_
 refine aB ?_ ?_ <;> intro oe
 refine ah (nC _).k ?_
 refine aB ?_ ?_ <;> intro YO
 exact ay (by refine congrArg Value.bool ?_;rw [dX];simp [fS];omega)
 exact ay (by simp_all [fS];omega)
 exact ay (by simp_all [fS];omega)
theorem I_ (w:Bool):aF Tryz.prog 440 [B w] (RV (.int .i64 (cA w))):=by
 refine aF.w 4 Tryz.func440 fun w g0 _=> ?_
 refine aB ?_ ?_ <;> intro hb
 exact ay (by simp_all [cA];done)
 exact ay (by simp_all [cA];done)
theorem pW (w:Bool):aF Tryz.prog 261 [B w] (RV (.int .i64 (cA w))):=by
 refine aF.w 4 Tryz.func261 fun w g0 _=> ?_
 refine aB ?_ ?_ <;> intro hb
 exact ay (by simp_all [cA];done)
 exact ay (by simp_all [cA];done)
theorem cW:aF Tryz.prog 319 [] (RP (A (iF bE))):=by
 refine aF.w 2 Tryz.func319 fun w g0 _=> ?_
 exact rfl
theorem eS:aF Tryz.prog 191 [] (RP (A (iF bE))):=by
 refine aF.w 2 Tryz.func191 fun w g0 _=> ?_
 exact rfl
theorem zR (x:aQ) (pages:Int) [Qr:Q (0 ≤ pages∧pages ≤ 1000)]:aF Tryz.prog 448 [A (iF x),I pages] (RV (.bool (jb x pages))):=by
 refine aF.w 24 Tryz.func448 fun w g0 _=> ?_
 have hp:=Qr.h
 refine o_ ?_
 refine iL (cW).k ?_
 refine Tw ?_
 refine aB ?_ ?_ <;> intro gK
 exact ay (by cases x;(simp_all [jb];done))
 refine cg ?_
 refine iL (aE _ _ _).k ?_
 refine aB ?_ ?_ <;> intro hg9
 refine aB ?_ ?_ <;> intro Wb
 refine iL (aE _ _ _).k ?_
 exact ay (by cases x;(simp_all [jb];done))
 exact ay (by cases x;(simp_all [jb];omega))
 exact ay (by cases x;(simp_all [jb];omega))
theorem zS (x:aQ) (pages:Int) [Qr:Q (0 ≤ pages∧pages ≤ 1000)]:aF Tryz.prog 323 [A (iF x),I pages] (RV (.bool (jb x pages))):=by
 refine aF.w 24 Tryz.func323 fun w g0 _=> ?_
 have hp:=Qr.h
 refine o_ ?_
 refine iL (eS).k ?_
 refine Tw ?_
 refine aB ?_ ?_ <;> intro gK
 exact ay (by cases x;(simp_all [jb];done))
 refine aB ?_ ?_ <;> intro YO
 refine cg ?_
 refine iL (aU _ _ _).k ?_
 refine aB ?_ ?_ <;> intro Wb
 refine iL (aU _ _ _).k ?_
 exact ay (by cases x;(simp_all [jb];done))
 exact ay (by cases x;(simp_all [jb];omega))
 exact ay (by cases x;(simp_all [jb];omega))
theorem pX (t:List aQ) (n:Int):aF Tryz.prog 206 [L 2 (t.map aT),I n] (RP (A (iF (fB t n)))):=by
 refine aF.w 16 Tryz.func206 fun w g0 hM=> ?_
 have eW:=hM.1.map
 refine len ?_
 refine cg ?_
 refine ah (aE _ _ _).k ?_
 refine aB ?_ ?_ <;> intro hb
 ·refine ah (cW).k ?_
  exact (by rw [fB,q4 (by omega)];rfl)
 ·refine xw (fun y14 YP YQ YR=> ?_)
  skip
  exact (by rw [fB,qH (by omega) ‹_›];rfl)
theorem pY (t:List aQ) (n:Int):aF Tryz.prog 186 [L 2 (t.map aT),I n] (RP (A (iF (fB t n)))):=by
 refine aF.w 15 Tryz.func186 fun w g0 hM=> ?_
 have eW:=hM.1.map
 refine len ?_
 refine ah (bM _ _).k ?_
 refine aB ?_ ?_ <;> intro hb
 ·refine ah (eS).k ?_
  exact (by rw [fB,q4 (by omega)];rfl)
 ·refine xw (fun y13 hy13 qy13 ly13=> ?_)
  skip
  exact (by rw [fB,qH (by omega) ‹_›];rfl)
end
end Go.Proofs.YtdliggkohdnipaaGreat.T
