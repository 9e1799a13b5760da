import Derived.Test.YtdliggkohdnipaaGreatHqr
set_option linter.unusedVariables false
set_option linter.unusedSimpArgs false
namespace Go.Proofs.YtdliggkohdnipaaGreat.T
open Go
abbrev j7 (n a b:Int):Bool:=decide (a ≤ n∧n ≤ b)
def fi (r n:Int):Bool:=j7 r 0 3 && j7 n 0 3 && decide (ry r n=n)
def jJ (i:iK):Bool:=
 if i.Op=1 ∨ i.Op=2 ∨ i.Op=5 ∨ i.Op=6 then j7 i.X 0 99 else if i.Op=3 ∨ i.Op=4 then j7 i.X 0 15 else if i.Op=7 then decide (i.X=0) else if i.Op=8 then j7 i.X 0 11 else false
def tS (p:List iK):Bool:=p.all jJ && j7 p.length 1 12
def iw (s:aL) (pages:Int):Bool:=decide (s=⟨-1,0⟩) || (decide (0 < pages) && j7 s.aJ 0 (pages - 1) && j7 s.aT 1 3)
def jP (t:List aL) (size pages:Int):Bool:=t.all (iw · pages) && decide ((t.length:Int)=size)
def aM (c:mA):List Int:=
 (if j7 c.bq 0 3 then [] else [1]) ++ (if j7 c.Post 0 255 then [] else [2]) ++ (if c.Post ≠ 0∧c.Open=false then [3] else []) ++ (if c.bq=2∧c.Post ≠ 0 then [4] else [])
def Ag (c:mA):Bool:=decide ((aM c).length=0)
def fy (e:kF):Bool:=
 if e.Kind=0 ∨ e.Kind=4 then decide (e.aJ=0) && !e.Write && decide (e.N=0) else if e.Kind=1 then j7 e.aJ 0 3 && decide (e.N=0)
 else if e.Kind=2 ∨ e.Kind=3 then j7 e.N 0 99 && decide (e.aJ=0) && !e.Write else false
abbrev qK (p:Int):Bool:=j7 p 0 255
def iM (c:List Int):Bool:=c.all (j7 · 0 99) && decide (c.length=4)
def rL (m:List (List Int)) (pages:Int):Bool:=m.all iM && decide ((m.length:Int)=pages)
def bL (g:av):Bool:=
 tS g.Prog && j7 g.A 0 99 && j7 g.Pc 0 12 && jP g.Written 4 8 && jP g.Live 4 8 && Ag g.iG && qK g.ax && fy g.Exit && decide (g.Seen.length ≤ 40)
def dm (b:aV):Bool:=b.aa.all bL && rL b.au 8 && j7 b.aa.length 1 2 && decide (b.bX.length ≤ 40) && qK b.ax
abbrev bu:aL:=⟨-1,0⟩
abbrev Uo:aO:=⟨[],[],[],[],[],0,0,[],0⟩
def qL (x:aO) (i:Nat):Bool:=match x.ai[i]?,x.Out[i]? with
 | some s,some p=>if s=bu then iM p else decide (p.length=0) && fi s.aT 1
 | _,_=>false
def ga (x:aO):Bool:=j7 x.aa.length 1 2 && decide (x.Tables.length=x.aa.length) && jP x.ai 8 12 && decide (x.Out.length=8) && decide (x.a_.length=8)
def jv (x:aO):Bool:=decide (x.bX.length ≤ 40) && qK x.ax && j7 x.bq 0 3 && j7 x.Own 0 1000000000
def eO (x:aO):Bool:=ga x && x.aa.all bL && (List.range 8).all (qL x) && jv x
def Up (x y:bt):Bool:=decide (x.Tag=y.Tag∧x.aJ=y.aJ)
def MG:bt:=⟨0,0,0,0⟩
def xY (b:List bt) (i k:Nat):Bool:=(List.range k).all fun j=> !Up (b[i]?.getD MG) (b[j]?.getD MG)
def xZ (b:List bt) (i:Nat):Bool:=(List.range i).all fun a=>xY b a a
def lQ (b:List bt):Bool:=xZ b b.length && decide (b.length ≤ 6)
abbrev Z8:bQ:=⟨[],[]⟩
abbrev tT:av:=⟨[],0,0,[],[],⟨0,0,false⟩,0,⟨0,0,false,0⟩,false,[]⟩
abbrev Uq:aV:=⟨[],[],[],0⟩
def kS {α:Type} (xs:List α) (i:Int):Option α:=if 0 ≤ i then xs[i.toNat]? else none
def put {α:Type} (xs:List α) (i:Int) (x: α):List α:=if 0 ≤ i then xs.set i.toNat x else xs
def brought (n a b:Int):Int:=if b < a ∨ n < a then a else if n > b then b else n
def ja (a b:Int):Int:=if j7 a 0 3 && j7 b 0 3 then ry a b else 0
def cu (w:Bool):Int:=if w then 2 else 1
def eP (t:List aL) (n:Int):aL:=(kS t n).getD bu
def Ah (t:List aL) (ag:Int) (k:Nat):Bool:=decide ((t[k]?.getD bu).aJ=ag)
def jx (t:List aL) (ag:Int):List Int:=cz (Ah t ag) t.length
def BH (n:Nat):List (List Int):=List.replicate n [0,0,0,0]
def cellAt (m:List (List Int)) (p c:Int):Int:=((kS m p).bind fun r=>kS r c).getD 0
def ec (m:List (List Int)) (p c v:Int):List (List Int):=match kS m p with
 | none=>m
 | some r=>if j7 v 0 99 then put m p (put r c v) else m
def eo (m:List (List Int)) (n:Int):List Int:=(kS m n).getD [0,0,0,0]
def eW (m:List (List Int)) (p:Int) (cells:List Int):List (List Int):=if iM cells then put m p cells else m
def eX (inner:aL) (outer:List aL):aL:=
 if inner.aJ= -1 ∨ (eP outer inner.aJ).aJ= -1 ∨ ja inner.aT (eP outer inner.aJ).aT=0 then bu else ⟨(eP outer inner.aJ).aJ,ja inner.aT (eP outer inner.aJ).aT⟩
def bn (inner:List aL) (ag need:Int):Option Int:=
 if (eP inner ag).aJ= -1 ∨ fi (eP inner ag).aT need=false ∨ need=0 then none else some (eP inner ag).aJ
def bl (a:Int):Int:=if a < 0 then -1 else a.tdiv 4
def bT (a:Int):Int:=if a < 0 then -1 else a.tmod 4
def eH (k:bQ) (ag:Int):Bool:=decide (0 ≤ ag∧ag < k.bY.length∧ag < k.c8.length)
def eg (k:bQ) (inner outer:List aL) (ag:Int):bQ:=match kS inner ag with
 | none=>k
 | some s=>if eH k ag then ⟨put k.bY ag true,put k.c8 ag (eX s outer)⟩ else k
def ask (k:bQ) (ag:Int):Option aL:=if eH k ag && (kS k.bY ag).getD false then kS k.c8 ag else none
def forget (k:bQ) (ag:Int):bQ:=if eH k ag then ⟨put k.bY ag false,put k.c8 ag bu⟩ else k
def gR (k:bQ) (inner:List aL) (ag:Int):bQ:=(jx inner ag).foldl forget k
def h_ (k:bQ):bQ:=(cz (fun _=>true) k.bY.length).foldl forget k
def jQ (tag ag:Int) (e:bt):Bool:=decide (e.Tag=tag) && decide (e.aJ=ag)
def cK (b:List bt) (tag ag:Int):Option bt:=b.find? (jQ tag ag)
def bM (b:List bt) (tag ag:Int):List bt:=b.filter fun e=> !jQ tag ag e
def cV (b:List bt) (host:Int):List bt:=b.filter fun e=> !decide (e.Host=host)
def gC (b:List bt) (e:bt):List bt:=(bM b e.Tag e.aJ ++ [e]).drop ((bM b e.Tag e.aJ).length + 1 - 6)
def bZ (m g:Int):Int:=if j7 m 0 2 && j7 g 0 1 then 1 + g + m * 2 else 0
def cM (p:List iK) (pc:Int):iK:=(kS p pc).getD ⟨7,0⟩
def fA (CB Ur:Int):Bool:=j7 CB 0 3 && j7 Ur 1 2 && decide (ry CB Ur ≠ 0)
def bit (p n:Int):Bool:=decide (ry (p.fdiv (2 ^ n.toNat)) 1=1)
def pG (c:mA) (n:Int):Bool:=Ag c && j7 n 0 7 && bit c.Post n
def ji (outer inner Ur:Int):Int:=if fA inner Ur then 1 else if fA outer Ur then 2 else 0
def ia (ag:Int) (w:Bool):kF:=⟨1,ag,w,0⟩
def kH (n:Int):kF:=⟨2,0,false,n⟩
def rM (n:Int):kF:=⟨3,0,false,n⟩
abbrev jR:kF:=⟨0,0,false,0⟩
abbrev qM:kF:=⟨4,0,false,0⟩
def e_ (p n:Int):Option Int:=if qK p && j7 n 0 7 then some (ior p (2 ^ n.toNat)) else none
def gl (p:Int):Nat→Int
 | 0=> -1
 | n + 1=>if bit p n then n else gl p n
def dn (p:Int):Int:=if qK p then gl p 8 else -1
def gp (p:Int):Option (Int×Int):=if dn p < 0 then none else some (p - 2 ^ (dn p).toNat,dn p)
def canRun (g:av):Bool:=decide (g.Exit=jR) && !g.i_
def Km (g:av) (n:Int):av:=if g.Seen.length < 40 then { g with Seen:=g.Seen ++ [n] } else g
def j8 (g:av):Bool:=canRun g && g.iG.Open && decide (0 ≤ dn g.ax)
def interrupted (g:av):av:=if j8 g then Km { g with ax:=g.ax - 2 ^ (dn g.ax).toNat } (100 + dn g.ax) else g
def cT (g:av) (e:kF):av:={ g with Exit:=e }
def aH (g:av):Int:=
 if canRun g=false then 0 else if j8 g then 1 else if (cM g.Prog g.Pc).Op=3 then 3 else if (cM g.Prog g.Pc).Op=4 then 4 else if (cM g.Prog g.Pc).Op=5 then 5
 else if (cM g.Prog g.Pc).Op=6 then 6 else if (cM g.Prog g.Pc).Op=7 then 7 else 2
def fj (g:av):av:={ g with Pc:=if g.Pc ≥ 12 then 12 else g.Pc + 1 }
def gI (g:av):av:=
 if aH g ≠ 2 then g else
 let i:=cM g.Prog g.Pc
 if j7 g.A 0 99 && j7 i.X 0 99 then
  (if i.Op=1 then fj { g with A:=i.X } else if i.Op=2 then fj { g with A:=(g.A + i.X).tmod 100 } else if i.Op=8∧g.A=0 then { g with Pc:=i.X } else fj g)
 else fj g
def qN (g:av) (v:Int):av:=fj (Km { g with A:=v } v)
def held (g:av):av:=fj { g with i_:=true }
def address (g:av):Int:=if aH g=3 ∨ aH g=4 then (cM g.Prog g.Pc).X else -1
def bW (b:aV) (g:Int) (x:av):aV:={ b with aa:=put b.aa g x }
def qO (b:aV) (n:Int):aV:=if b.bX.length < 40 then { b with bX:=b.bX ++ [n] } else b
def m6 (want:Int):Int:=if want=5 then 1 else 2
def m7 (x:av) (want:Int):av:=if want=5 then cT x (rM (cM x.Prog x.Pc).X) else cT x qM
def pP (b:aV) (g:Int) (x:av) (w:Bool):aV:=match bn x.Live (bl (address x)) (cu w) with
 | none=>bW b g (cT x (ia (bl (address x)) w))
 | some p=>if w then bW { b with au:=ec b.au p (bT (address x)) x.A } g (fj x) else bW b g (qN x (cellAt b.au p (bT (address x))))
def stepOf (b:aV) (g:Int) (x:av):aV:=
 if aH x=1 then bW b g (interrupted x) else if aH x=2 then bW b g (gI x) else if aH x=3 then pP b g x false else if aH x=4 then pP b g x true
 else if aH x=6 then bW b g (cT x (kH (cM x.Prog x.Pc).X)) else if fA x.iG.bq (m6 (aH x)) then bW b g (m7 x (aH x))
 else if aH x=5 then bW (qO b (cM x.Prog x.Pc).X) g (fj x) else bW b g (held x)
def gJ (b:aV) (g:Int) (f:av→Option av):Option aV:=if dm b then (kS b.aa g).bind fun x=>(f x).map (bW b g) else none
def m8 (b:aV) (g:Int):Option aV:=if dm b then (kS b.aa g).bind fun x=>if aH x=0 then none else some (stepOf b g x) else none
def d_ (b:aV) (g ag:Int) (s:aL):Option aV:=gJ b g fun x=>if j7 ag 0 3 && iw s 8 then some { x with Written:=put x.Written ag s } else none
def dO (b:aV) (g ag:Int):Option aV:=gJ b g fun x=>if j7 ag 0 3 then some { x with Live:=put x.Live ag (eP x.Written ag) } else none
def b_ (b:aV) (g v:Int):Option aV:=gJ b g fun x=>if (x.Exit.Kind=2 ∨ x.Exit.Kind=3)∧j7 v 0 99=true then some (fj (cT (if x.Exit.Kind=2 then { x with A:=v } else x) jR)) else none
def cg (b:aV) (g:Int):Option aV:=gJ b g fun x=>if x.Exit.Kind=1 then some (cT x jR) else if x.Exit.Kind=4 then some (held (cT x jR)) else none
def bU (b:aV) (g n:Int):Option aV:=gJ b g fun x=>(e_ x.ax n).map fun p=>{ x with ax:=p }
def ea (b:aV) (g:Int) (c:mA):Option aV:=gJ b g fun x=>if Ag c then some { x with iG:=c } else none
def gX (b:aV) (ag cell v:Int):Option aV:=if dm b && j7 ag 0 7 && j7 cell 0 3 && j7 v 0 99 then some { b with au:=ec b.au ag cell v } else none
def oh (n:Int) (g:av):av:=if pG g.iG n then { g with ax:=(e_ g.ax n).getD g.ax } else g
def cF (b:aV) (n:Int):Option aV:=
 if dm b && j7 n 0 7 then some (if b.aa.any (fun g=>pG g.iG n) then { b with aa:=b.aa.map (oh n) } else { b with ax:=(e_ b.ax n).getD b.ax }) else none
def fB (b:aV):Option (aV×Int):=if dm b then (gp b.ax).map fun q=>({ b with ax:=q.1 },q.2) else none
def kX (t:List aL):List Int:=(t.map fun s=>s.aJ).filter fun p=>decide (0 ≤ p)
def fC (x:aO):List Int:=kX x.ai
def dL (h:an):Bool:=rL h.au 12 && j7 h.ap.length 1 3 && lQ h.Buffer && lQ h.aC && h.ap.all eO && decide (h.ap.flatMap fC).Nodup
abbrev je (h:an) (m:Int):Option aO:=kS h.ap m
def m9 (h:an) (m n:Int):List Int:=match je h m with
 | none=>[0,0,0,0]
 | some x=>if 0 ≤ n∧n ≤ 7 then (if (eP x.ai n).aJ ≠ -1 then eo h.au (eP x.ai n).aJ else eo x.Out n) else [0,0,0,0]
def l9 (h:an) (m:Int) (i:Nat):List (List Int):=(List.range i).map fun (k:Nat)=>m9 h m k
def ck (h:an) (m:Int):aV:=match je h m with
 | none=>Uq
 | some x=>⟨l9 h m 8,x.aa,x.bX,x.ax⟩
def cE (h:an) (m:Nat):aO:=h.ap[m]?.getD Uo
def fD (h:an) (m:Nat) (x:aO):an:={ h with ap:=h.ap.set m x }
def o6 (h:an) (m p:Nat):aL:=(cE h m).ai[p]?.getD bu
def l_ (t:List aL) (ag:Int):Option Nat:=t.findIdx? fun s=>decide (s.aJ=ag)
def eN (l:List aO) (ag:Int) (m:Nat):Option (Nat×Nat):=match l with
 | []=>none
 | x :: l=>match l_ x.ai ag with|some p=>some (m,p)|none=>eN l ag (m + 1)
def bN (h:an) (ag:Int):Option (Nat×Nat):=if 0 ≤ ag then eN h.ap ag 0 else none
def nC (h:an) (p:Nat):Bool:=(bN h p).isNone
def eE (h:an):List Int:=cz (nC h) h.au.length
def eL (x:aO) (ag:Int):List bQ:=List.zipWith (fun k (g:av)=>gR k g.Live ag) x.Tables x.aa
def tU (h:an) (m p:Nat) (s:aL):an:=
 let x:=cE h m
 let old:=(o6 h m p).aJ
 {h with ap:=h.ap.set m { x with Tables:=eL x p,ai:=x.ai.set p s },Buffer:=if old= -1 then h.Buffer else cV h.Buffer old,aC:=if old= -1 then h.aC else cV h.aC old }
def vA (h:an) (m p:Nat) (cells:List Int):an:=fD h m { cE h m with Out:=(cE h m).Out.set p cells }
def lR (h:an) (m p:Nat) (b:Bool):an:=fD h m { cE h m with a_:=(cE h m).a_.set p b }
def cr (h:an) (m p:Nat):an:=tU (vA h m p (eo h.au (o6 h m p).aJ)) m p bu
def roomFor (h:an):an:=match eE h with
 | []=>(match bN h 0 with|some (m,p)=>cr h m p|none=>h)
 | _=>h
def yR (h:an) (m p:Nat):an:=
 let to:=(eE h).headD 0
 tU (vA { h with au:=eW h.au to ((cE h m).Out[p]?.getD []) } m p []) m p ⟨to,3⟩
def cw (h:an) (m p:Nat):an:=yR (roomFor h) m p
def dG (h:an) (m ag:Int):Bool:=dL h && decide (0 ≤ m∧m < h.ap.length) && j7 ag 0 7
def iU (h:an) (m ag:Int):Option an:=if dG h m ag && decide ((o6 h m.toNat ag.toNat).aJ ≠ -1) then some (cr h m.toNat ag.toNat) else none
def mD (h:an) (m ag:Int):Option an:=if dG h m ag && decide ((o6 h m.toNat ag.toNat).aJ= -1) then some (cw h m.toNat ag.toNat) else none
def BI (h:an) (m p:Nat):an:=if (o6 h m p).aJ= -1 then lR h m p false else tU (lR h m p false) m p ⟨(o6 h m p).aJ,1⟩
def guard (h:an) (m ag:Int):Option an:=if dG h m ag then some (BI h m.toNat ag.toNat) else none
def Ai (h:an) (m p:Nat):an:=if ry (o6 h m p).aT 2=0 then tU (lR h m p true) m p ⟨(o6 h m p).aJ,3⟩ else lR h m p true
def cL (h:an) (m p:Nat) (need:Int):an:=
 let h1:=if (o6 h m p).aJ= -1 then cw h m p else h
 if ry need 2=0 then h1 else Ai h1 m p
def setTable (h:an) (m g:Nat) (k:bQ):an:=fD h m { cE h m with Tables:=(cE h m).Tables.set g k }
def iV (h:an) (m g:Nat) (u:av):an:=fD h m { cE h m with aa:=(cE h m).aa.set g u }
def oK (h:an) (io:Bool):List bt:=if io then h.aC else h.Buffer
def o7 (h:an) (io:Bool) (b:List bt):an:=if io then { h with aC:=b } else { h with Buffer:=b }
def kept (h:an) (m g:Nat):bQ:=(cE h m).Tables[g]?.getD Z8
def c9 (h:an) (m g:Nat):av:=(cE h m).aa[g]?.getD tT
def lets (s:Option aL) (need:Int):Bool:=match s with|some s=>decide (s.aJ ≠ -1) && fi s.aT need|none=>false
def filled (h:an) (m g:Nat) (ag:Int) (q:Nat) (need:Int):an:=
 if lets (ask (kept h m g) ag) need then h else
 let h1:=cL h m q need
 setTable h1 m g (eg (kept h1 m g) (c9 h1 m g).Live (cE h1 m).ai ag)
def x_ (h:an) (m g:Nat) (ag need:Int) (io:Bool) (q:Nat):an×Int:=
 let h0:=if need=2 then lR h m q true else h
 match (cK (oK h0 io) (bZ m g) ag).filter (fun e=>fi e.aT need) with
 | some e=>(h0,e.Host)
 | none=>
  let h1:=filled h0 m g ag q need
  let s:=(ask (kept h1 m g) ag).getD bu
  (o7 h1 io (gC (oK h1 io) ⟨bZ m g,ag,s.aJ,s.aT⟩),s.aJ)
def cG (h:an) (m g:Int):Bool:=dL h && decide (0 ≤ m∧m < h.ap.length) && decide (0 ≤ g∧g < (cE h m.toNat).aa.length)
def find (h:an) (m g ag need:Int) (io:Bool):Option (an×Int):=
 if cG h m g && (decide (need=1) || decide (need=2)) then (bn (c9 h m.toNat g.toNat).Live ag need).map fun q=>x_ h m.toNat g.toNat ag need io q.toNat else none
def E5 (x:aO):aO:={ x with Tables:=x.Tables.map h_ }
def Ko (h:an):an:={ h with ap:=h.ap.map E5,Buffer:=[],aC:=[] }
def ix (h:an) (m g:Nat) (x:av) (w:Bool):an:=match find h m g (bl (address x)) (cu w) false with
 | none=>iV h m g (cT x (ia (bl (address x)) w))
 | some (h1,p)=>if w then iV { h1 with au:=ec h1.au p (bT (address x)) x.A } m g (fj x) else iV h1 m g (qN x (cellAt h1.au p (bT (address x))))
def I3 (x:aO):aO:=if x.Own < 1000000000 then { x with Own:=x.Own + 1 } else x
def vB (x:aO) (n:Int):aO:=if x.bX.length < 40 then { x with bX:=x.bX ++ [n] } else x
def o8 (x:aO) (g:Nat) (u:av) (want:Int):aO:=
 let o:=ji x.bq u.iG.bq (m6 want)
 if o=1 then { x with aa:=x.aa.set g (m7 u want) } else
 let y:=if o=2 then I3 x else x
 if want=7 then { y with aa:=y.aa.set g (held u) } else
 let z:=vB y (cM u.Prog u.Pc).X
 {z with aa:=z.aa.set g (fj u) }
def iJ (h:an) (m g:Nat) (u:av):an:=
 if aH u=1 then iV h m g (interrupted u) else if aH u=2 then iV h m g (gI u) else if aH u=3 then ix h m g u false else if aH u=4 then ix h m g u true
 else if aH u=6 then iV h m g (cT u (kH (cM u.Prog u.Pc).X)) else fD h m (o8 (cE h m) g u (aH u))
def cn (h:an) (m g:Int):Option an:=if cG h m g then (if aH (c9 h m.toNat g.toNat)=0 then none else some (iJ h m.toNat g.toNat (c9 h m.toNat g.toNat))) else none
def cO (h:an) (m:Int):Bool:=dL h && decide (0 ≤ m∧m < h.ap.length)
def iW (h:an) (m CB:Int):Option an:=if cO h m && j7 CB 0 3 then some (fD h m.toNat { cE h m.toNat with bq:=CB }) else none
def bJ (x:aO):aV:=⟨BH 8,x.aa,x.bX,x.ax⟩
def jS (h:an) (m:Nat) (b:aV):an:=fD h m { cE h m with aa:=b.aa,ax:=b.ax }
def bp (h:an) (m:Int) (f:aV→Option aV):Option an:=if cO h m then (f (bJ (cE h m.toNat))).map (jS h m.toNat) else none
def dg (h:an) (m g ag:Int):Option an:=(bp h m fun b=>dO b g ag).map fun h1=>
 let h2:=setTable h1 m.toNat g.toNat (forget (kept h1 m.toNat g.toNat) ag)
 {h2 with Buffer:=bM h2.Buffer (bZ m g) ag,aC:=bM h2.aC (bZ m g) ag }
def jy (h:an) (m ag cell v:Int):Option an:=if dG h m ag && j7 cell 0 3 && j7 v 0 99 then
 (let h1:=cL h m.toNat ag.toNat 2
  some { h1 with au:=ec h1.au (o6 h1 m.toNat ag.toNat).aJ cell v }) else none
def dH (h:an) (m:Int):Option (an×Int):=if cO h m then (fB (bJ (cE h m.toNat))).map fun q=>(jS h m.toNat q.1,q.2) else none
def kx (h:an) (m g addr v:Int):Option an:=if j7 addr 0 15 && j7 v 0 99 then (find h m g (bl addr) 2 true).map fun q=>{ q.1 with au:=ec q.1.au q.2 (bT addr) v } else none
def fV (h:an) (m g addr:Int):Option (an×Int):=if j7 addr 0 15 then (find h m g (bl addr) 1 true).map fun q=>(q.1,cellAt q.1.au q.2 (bT addr)) else none
def tV (k:Int):Bool:=j7 k 13 17
def I4 (a:gn):Bool:=j7 a.Kind 1 17
def CC (a:gn):mA:=⟨a.X,a.Y,decide (a.Z=1)⟩
def fQ {α:Type} (x: α) (q:Option α): α×IW:=(q.getD x,⟨q.isSome,0⟩)
def Kp {α:Type} (x: α) (n:Int) (q:Option (α×Int)): α×IW:=match q with|some q=>(q.1,⟨true,q.2⟩)|none=>(x,⟨false,n⟩)
def bF (h:an) (a:gn):an×IW:=
 if a.Kind=1 then fQ h (cn h a.M a.G)
 else if a.Kind=2 then fQ h (bp h a.M fun b=>d_ b a.G a.X ⟨a.Y,a.Z⟩)
 else if a.Kind=3 then fQ h (dg h a.M a.G a.X)
 else if a.Kind=4 then fQ h (bp h a.M fun b=>b_ b a.G a.X)
 else if a.Kind=5 then fQ h (bp h a.M fun b=>cg b a.G)
 else if a.Kind=6 then fQ h (bp h a.M fun b=>bU b a.G a.X)
 else if a.Kind=7 then fQ h (bp h a.M fun b=>ea b a.G (CC a))
 else if a.Kind=8 then fQ h (jy h a.M a.X a.Y a.Z)
 else if a.Kind=9 then fQ h (bp h a.M fun b=>cF b a.X)
 else if a.Kind=10 then Kp h (-1) (dH h a.M)
 else if a.Kind=11 then fQ h (kx h a.M a.G a.X a.Y)
 else if a.Kind=12 then Kp h 0 (fV h a.M a.G a.X)
 else if a.Kind=13 then fQ h (iU h a.M a.X)
 else if a.Kind=14 then fQ h (mD h a.M a.X)
 else if a.Kind=15 then fQ h (guard h a.M a.X)
 else if a.Kind=16 then fQ h (iW h a.M a.X)
 else if a.Kind=17 then (Ko h,⟨true,0⟩)
 else (h,⟨false,0⟩)
def jb {σ:Type} (f: σ→gn→ σ×IW) (jT:List gn) (s: σ): σ:=jT.foldl (fun s a=>(f s a).1) s
def jj (h:an) (m:Int):Nat→an
 | 0=>h
 | n + 1=>(guard (jj h m n) m n).getD (jj h m n)
def cY (h:an) (m:Int):Option an:=if cO h m then some (jj h m 8) else none
def qP (d:List Bool) (i:Nat):Bool:=d[i]?.getD false
def tW (h:an) (m:Int):List Int:=match kS h.ap m with|some x=>cz (qP x.a_) x.a_.length|none=>[]
def ep (h:an) (m:Int) (jT:List gn):List Int:=match cY h m with|some h1=>tW (jb bF jT h1) m|none=>[]
section
variable {i:Int}
set_option maxRecDepth 100000
set_option maxHeartbeats 1000000
instance:Q ((0:Int) ≤ 8∧(8:Int) ≤ 1000):=⟨by omega⟩
instance:Q ((0:Int) ≤ 12∧(12:Int) ≤ 1000):=⟨by omega⟩
theorem oL {α:Type} {xs:List α} {y: α} (h:0 ≤ i) (hy:xs[i.toNat]? = some y):kS xs i=some y:=by unfold kS;rw [if_pos h,hy]
theorem nR {α:Type} {xs:List α} (h:¬ (0 ≤ i∧i < xs.length)):kS xs i=none:=by
 unfold kS
 split
 exact List.getElem?_eq_none (by omega)
 rfl
theorem tX {α:Type} {xs:List α} {y: α} (h:0 ≤ i):put xs i y=xs.set i.toNat y:=by unfold put;rw [if_pos h]
theorem Aj {α:Type} {xs:List α} {y: α} (h:¬ (0 ≤ i∧i < xs.length)):put xs i y=xs:=by
 unfold put
 split
 exact List.set_eq_of_length_le (by omega)
 rfl
theorem ol {α:Type} {xs:List α} {y: α}:(put xs i y).length=xs.length:=by unfold put;split <;> simp
theorem aE (n:Int) (a:Int) (b:Int):aF Tryz.prog 177 [I n,I a,I b] (RV (.bool (j7 n a b))):=by
 refine aF.w 15 Tryz.func177 fun w g0 _=> ?_
 refine aB ?_ ?_ <;> intro gm
 exact ay (by simp_all;done)
 exact ay (by simp_all;omega)
theorem aS (n:Int) (a:Int) (b:Int):aF Tryz.prog 78 [I n,I a,I b] (RV (.bool (j7 n a b))):=by
 refine aF.w 15 Tryz.func78 fun w g0 _=> ?_
 refine aB ?_ ?_ <;> intro gm
 exact ay (by simp_all;done)
 exact ay (by simp_all;omega)
theorem bA (k:Int) (n:Int):aF Tryz.prog 97 [I k,I n] (RV (.bool (decide (0 ≤ k∧k < n)))):=by
 refine aF.w 12 Tryz.func97 fun w g0 _=> ?_
 refine aB ?_ ?_ <;> intro mS
 exact ay (by simp_all;done)
 exact ay (by simp_all;omega)
theorem E6 (n:Int) (a:Int) (b:Int):aF Tryz.prog 140 [I n,I a,I b] (RV (.int .i64 (brought n a b))):=by
 refine aF.w 21 Tryz.func140 fun w g0 _=> ?_
 refine aB ?_ ?_ <;> intro gm
 exact ay (by simp_all [brought];done)
 refine aB ?_ ?_ <;> intro hb
 exact ay (by simp_all [brought];done)
 refine aB ?_ ?_ <;> intro gY
 exact ay (by simp_all [brought];omega)
 exact ay (by simp_all [brought];omega)
theorem mb (r:Int):aF Tryz.prog 491 [I r] (RV (.bool (j7 r 0 3))):=by
 refine aF.w 5 Tryz.func491 fun w g0 _=> ?_
 refine ah (aE _ _ _).k ?_
 exact rfl
theorem mc (r:Int):aF Tryz.prog 324 [I r] (RV (.bool (j7 r 0 3))):=by
 refine aF.w 5 Tryz.func324 fun w g0 _=> ?_
 refine ah (aS _ _ _).k ?_
 exact rfl
theorem Ak (a:Int) (b:Int):aF Tryz.prog 501 [I a,I b] (RV (.int .i64 (ja a b))):=by
 refine aF.w 16 Tryz.func501 fun w g0 _=> ?_
 refine ah (mb _).k ?_
 refine aB ?_ ?_ <;> intro gm
 exact ay (by unfold ja;simp [*];done)
 refine ah (mb _).k ?_
 refine aB ?_ ?_ <;> intro hb
 exact ay (by unfold ja;simp [*];done)
 exact ay (by unfold ja;simp [*];done)
theorem Al (a:Int) (b:Int):aF Tryz.prog 505 [I a,I b] (RV (.int .i64 (ja a b))):=by
 refine aF.w 16 Tryz.func505 fun w g0 _=> ?_
 refine ah (mc _).k ?_
 refine aB ?_ ?_ <;> intro gm
 exact ay (by unfold ja;simp [*];done)
 refine ah (mc _).k ?_
 refine aB ?_ ?_ <;> intro hb
 exact ay (by unfold ja;simp [*];done)
 exact ay (by unfold ja;simp [*];done)
theorem kn (r:Int) (n:Int):aF Tryz.prog 458 [I r,I n] (RV (.bool (fi r n))):=by
 refine aF.w 18 Tryz.func458 fun w g0 _=> ?_
 refine ah (mb _).k ?_
 refine aB ?_ ?_ <;> intro mS
 refine ah (mb _).k ?_
 refine aB ?_ ?_ <;> intro W9
 exact ay (by refine congrArg Value.bool ?_;rw [Bool.eq_iff_iff];simp [fi];omega)
 exact ay (by simp_all [fi];omega)
 exact ay (by simp_all [fi];omega)
theorem fm (r:Int) (n:Int):aF Tryz.prog 210 [I r,I n] (RV (.bool (fi r n))):=by
 refine aF.w 18 Tryz.func210 fun w g0 _=> ?_
 refine ah (mc _).k ?_
 refine aB ?_ ?_ <;> intro mS
 refine ah (mc _).k ?_
 refine aB ?_ ?_ <;> intro W9
 exact ay (by refine congrArg Value.bool ?_;rw [Bool.eq_iff_iff];simp [fi];omega)
 exact ay (by simp_all [fi];omega)
 exact ay (by simp_all [fi];omega)
theorem Ho (w:Bool):aF Tryz.prog 440 [B w] (RV (.int .i64 (cu w))):=by
 refine aF.w 4 Tryz.func440 fun w g0 _=> ?_
 refine aB ?_ ?_ <;> intro hb
 exact ay (by simp_all [cu];done)
 exact ay (by simp_all [cu];done)
theorem om (w:Bool):aF Tryz.prog 261 [B w] (RV (.int .i64 (cu w))):=by
 refine aF.w 4 Tryz.func261 fun w g0 _=> ?_
 refine aB ?_ ?_ <;> intro hb
 exact ay (by simp_all [cu];done)
 exact ay (by simp_all [cu];done)
theorem cW:aF Tryz.prog 319 [] (RP (A (gB bu))):=by
 refine aF.w 2 Tryz.func319 fun w g0 _=> ?_
 exact rfl
theorem eM:aF Tryz.prog 191 [] (RP (A (gB bu))):=by
 refine aF.w 2 Tryz.func191 fun w g0 _=> ?_
 exact rfl
theorem ya (x:aL) (pages:Int) [OP:Q (0 ≤ pages∧pages ≤ 1000)]:aF Tryz.prog 448 [A (gB x),I pages] (RV (.bool (iw x pages))):=by
 refine aF.w 24 Tryz.func448 fun w g0 _=> ?_
 have hp:=OP.h
 refine pM ?_
 refine iQ (cW).k ?_
 refine RQ ?_
 refine aB ?_ ?_ <;> intro gm
 exact ay (by cases x;(simp_all [iw];done))
 refine cD ?_
 refine iQ (aE _ _ _).k ?_
 refine aB ?_ ?_ <;> intro hg9
 refine aB ?_ ?_ <;> intro Us
 refine iQ (aE _ _ _).k ?_
 exact ay (by cases x;(simp_all [iw];done))
 exact ay (by cases x;(simp_all [iw];omega))
 exact ay (by cases x;(simp_all [iw];omega))
theorem yb (x:aL) (pages:Int) [OP:Q (0 ≤ pages∧pages ≤ 1000)]:aF Tryz.prog 323 [A (gB x),I pages] (RV (.bool (iw x pages))):=by
 refine aF.w 24 Tryz.func323 fun w g0 _=> ?_
 have hp:=OP.h
 refine pM ?_
 refine iQ (eM).k ?_
 refine RQ ?_
 refine aB ?_ ?_ <;> intro gm
 exact ay (by cases x;(simp_all [iw];done))
 refine aB ?_ ?_ <;> intro W9
 refine cD ?_
 refine iQ (aS _ _ _).k ?_
 refine aB ?_ ?_ <;> intro Us
 refine iQ (aS _ _ _).k ?_
 exact ay (by cases x;(simp_all [iw];done))
 exact ay (by cases x;(simp_all [iw];omega))
 exact ay (by cases x;(simp_all [iw];omega))
theorem sn (t:List aL) (n:Int):aF Tryz.prog 206 [L 2 (t.map aQ),I n] (RP (A (gB (eP t n)))):=by
 refine aF.w 16 Tryz.func206 fun w g0 hM=> ?_
 have eK:=hM.1.map
 refine len ?_
 refine cD ?_
 refine ah (aE _ _ _).k ?_
 refine aB ?_ ?_ <;> intro hb
 ·refine ah (cW).k ?_
  exact (by rw [eP,nR (by omega)];rfl)
 ·refine xN (fun y14 W_ Xa Xb=> ?_)
  skip
  exact (by rw [eP,oL (by omega) (by assumption)];rfl)
theorem oo (t:List aL) (n:Int):aF Tryz.prog 186 [L 2 (t.map aQ),I n] (RP (A (gB (eP t n)))):=by
 refine aF.w 15 Tryz.func186 fun w g0 hM=> ?_
 have eK:=hM.1.map
 refine len ?_
 refine ah (bA _ _).k ?_
 refine aB ?_ ?_ <;> intro hb
 ·refine ah (eM).k ?_
  exact (by rw [eP,nR (by omega)];rfl)
 ·refine xN (fun y13 Z9 Z_ aaa=> ?_)
  skip
  exact (by rw [eP,oL (by omega) (by assumption)];rfl)
end
end Go.Proofs.YtdliggkohdnipaaGreat.T
