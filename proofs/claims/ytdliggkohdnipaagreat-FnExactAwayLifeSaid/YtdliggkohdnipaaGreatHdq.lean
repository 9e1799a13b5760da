import Derived.Test.YtdliggkohdnipaaGreatHqq
set_option linter.unusedVariables false
set_option linter.unusedSimpArgs false
namespace Go.Proofs.YtdliggkohdnipaaGreat.T
open Go
set_option maxRecDepth 100000
set_option maxHeartbeats 1000000
theorem Mp (x:bZ):aF Tryz.prog 370 [A (Eo x)] (RP (A (Eo x))):=by
 refine aF.w 11 Tryz.func370 fun w g0 _=> ?_
 exact rfl
theorem Jw (xs:List bZ) (jS:ju xs):aF Tryz.prog 243 [L 2 (xs.map i_)] (RL 2 (xs.map i_)):=by
 refine aF.w 23 Tryz.func243 fun w g0 _=> ?_
 have hlen:xs.length ≤ 1048576:=jS
 refine len ?_
 refine mkn ?_
 refine fw [] [] [] (fun (k:Nat)=>[.set 0 (L 2 (xs.map i_)), .set 3 (.one (.c (.ref ⟨7,[],0⟩))), .set 4 (I k)]) (fun (k:Nat)=>[(7,⟨false,[.own (.sl 2 (fill i_ (i_ (bZ.mk 0 0)) xs k))]⟩)]) (fun (k:Nat)=>k ≤ xs.length) (fun (k:Nat)=>xs.length - k) (0) (by simp) ?_
 refine ⟨(uu (by repeat' first|exact rfl|constructor)),fun k hyp N1 bq=> ?_⟩
 have hyp:k ≤ xs.length:=hyp
 refine len ?_
 refine dV (fun hb=> ?_) (fun hb=> ?_)
 have hk:k < xs.length:=by simpa using hb
 obtain ⟨x,hx⟩:=dO (xs:=xs) (k:=k) hk
 have hg:=Bk (f:=i_) (z:=(i_ (bZ.mk 0 0))) hk
 have hs:=Bl (f:=i_) (z:=(i_ (bZ.mk 0 0))) hx
 refine dM hx ?_
 refine ah (Mp x).k ?_
 refine di (?_) (by rw [Bj];omega)
 refine Ax hg ?_
 refine cg ?_
 refine bq _ _ _ ?_
 refine ur [] (k + 1) (by omega) (by repeat' first|exact rfl|constructor|(refine dL ?_;(rw [← hs])))
 refine bq _ _ _ ?_
 exact by simp at hb;rw [← Bm (f:=i_) (z:=(i_ (bZ.mk 0 0))) (k:=k) (by omega)];rfl
theorem Mq (x:dF):aF Tryz.prog 129 [A (CY x)] (RP (A (CY x))):=by
 refine aF.w 23 Tryz.func129 fun w g0 _=> ?_
 exact rfl
theorem qc (xs:List dF) (jS:ja xs):aF Tryz.prog 45 [L 6 (xs.map gO)] (RL 6 (xs.map gO)):=by
 refine aF.w 23 Tryz.func45 fun w g0 _=> ?_
 have hlen:xs.length ≤ 1048576:=jS
 refine len ?_
 refine mkn ?_
 refine fw [] [] [] (fun (k:Nat)=>[.set 0 (L 6 (xs.map gO)), .set 3 (.one (.c (.ref ⟨7,[],0⟩))), .set 4 (I k)]) (fun (k:Nat)=>[(7,⟨false,[.own (.sl 6 (fill gO (gO (dF.mk 0 0 0 0 0 0)) xs k))]⟩)]) (fun (k:Nat)=>k ≤ xs.length) (fun (k:Nat)=>xs.length - k) (0) (by simp) ?_
 refine ⟨(uu (by repeat' first|exact rfl|constructor)),fun k hyp N1 bq=> ?_⟩
 have hyp:k ≤ xs.length:=hyp
 refine len ?_
 refine dV (fun hb=> ?_) (fun hb=> ?_)
 have hk:k < xs.length:=by simpa using hb
 obtain ⟨x,hx⟩:=dO (xs:=xs) (k:=k) hk
 have hg:=Bk (f:=gO) (z:=(gO (dF.mk 0 0 0 0 0 0))) hk
 have hs:=Bl (f:=gO) (z:=(gO (dF.mk 0 0 0 0 0 0))) hx
 refine dM hx ?_
 refine ah (Mq x).k ?_
 refine di (?_) (by rw [Bj];omega)
 refine Ax hg ?_
 refine cg ?_
 refine bq _ _ _ ?_
 refine ur [] (k + 1) (by omega) (by repeat' first|exact rfl|constructor|(refine dL ?_;(rw [← hs])))
 refine bq _ _ _ ?_
 exact by simp at hb;rw [← Bm (f:=gO) (z:=(gO (dF.mk 0 0 0 0 0 0))) (k:=k) (by omega)];rfl
theorem Hy (xs:List (List bZ)) (jS:kK xs):aF Tryz.prog 144 [L 1 (xs.map h_)] (RL 1 (xs.map h_)):=by
 refine aF.w 23 Tryz.func144 fun w g0 _=> ?_
 have hlen:xs.length ≤ 1048576:=jS.1
 refine len ?_
 refine mkn ?_
 refine fw [] [] [] (fun (k:Nat)=>[.set 0 (L 1 (xs.map h_)), .set 3 (.one (.c (.ref ⟨7,[],0⟩))), .set 4 (I k)]) (fun (k:Nat)=>[(7,⟨false,[.own (.sl 1 (fill h_ (h_ []) xs k))]⟩)]) (fun (k:Nat)=>k ≤ xs.length) (fun (k:Nat)=>xs.length - k) (0) (by simp) ?_
 refine ⟨(uu (by repeat' first|exact rfl|constructor)),fun k hyp N1 bq=> ?_⟩
 have hyp:k ≤ xs.length:=hyp
 refine len ?_
 refine dV (fun hb=> ?_) (fun hb=> ?_)
 have hk:k < xs.length:=by simpa using hb
 obtain ⟨x,hx⟩:=dO (xs:=xs) (k:=k) hk
 have tw:ju x:=jS.2 x (aH hx)
 have hg:=Bk (f:=h_) (z:=(h_ [])) hk
 have hs:=Bl (f:=h_) (z:=(h_ [])) hx
 refine dM hx ?_
 refine bu (Jw x tw).k ?_
 refine di (?_) (by rw [Bj];omega)
 refine Ax hg ?_
 refine cg ?_
 refine bq _ _ _ ?_
 refine ur [] (k + 1) (by omega) (by repeat' first|exact rfl|constructor|(refine dL ?_;(rw [← hs])))
 refine bq _ _ _ ?_
 exact by simp at hb;rw [← Bm (f:=h_) (z:=(h_ [])) (k:=k) (by omega)];rfl
theorem nJ (xs:List (List (List bZ))) (jS:dY xs):aF Tryz.prog 56 [L 1 (xs.map de)] (RL 1 (xs.map de)):=by
 refine aF.w 23 Tryz.func56 fun w g0 _=> ?_
 have hlen:xs.length ≤ 1048576:=jS.1
 refine len ?_
 refine mkn ?_
 refine fw [] [] [] (fun (k:Nat)=>[.set 0 (L 1 (xs.map de)), .set 3 (.one (.c (.ref ⟨7,[],0⟩))), .set 4 (I k)]) (fun (k:Nat)=>[(7,⟨false,[.own (.sl 1 (fill de (de []) xs k))]⟩)]) (fun (k:Nat)=>k ≤ xs.length) (fun (k:Nat)=>xs.length - k) (0) (by simp) ?_
 refine ⟨(uu (by repeat' first|exact rfl|constructor)),fun k hyp N1 bq=> ?_⟩
 have hyp:k ≤ xs.length:=hyp
 refine len ?_
 refine dV (fun hb=> ?_) (fun hb=> ?_)
 have hk:k < xs.length:=by simpa using hb
 obtain ⟨x,hx⟩:=dO (xs:=xs) (k:=k) hk
 have tw:kK x:=jS.2 x (aH hx)
 have hg:=Bk (f:=de) (z:=(de [])) hk
 have hs:=Bl (f:=de) (z:=(de [])) hx
 refine dM hx ?_
 refine bu (Hy x tw).k ?_
 refine di (?_) (by rw [Bj];omega)
 refine Ax hg ?_
 refine cg ?_
 refine bq _ _ _ ?_
 refine ur [] (k + 1) (by omega) (by repeat' first|exact rfl|constructor|(refine dL ?_;(rw [← hs])))
 refine bq _ _ _ ?_
 exact by simp at hb;rw [← Bm (f:=de) (z:=(de [])) (k:=k) (by omega)];rfl
def kR {α:Type} (f:Int→ α→ α) (c: α→Int):Int→List α→List α
 | _,[]=>[]
 | k,x :: l=>f k x :: kR f c (k + c x) l
def aA {α:Type} (c: α→Int):List α→Int
 | []=>0
 | x :: l=>c x + aA c l
theorem gu {α:Type} (f:Int→ α→ α) (c: α→Int):∀ (xs:List α) (k:Int),(kR f c k xs).length=xs.length
 | [],_=>rfl
 | x :: l,k=>by simp [kR,gu f c l]
theorem bN {α:Type} {c: α→Int} (h:∀ x,0 ≤ c x):∀ xs:List α,0 ≤ aA c xs
 | []=>Int.le_refl _
 | x :: l=>by have:=h x;have:=bN h l;simp only [aA];omega
theorem x6 {α:Type} (c: α→Int):∀ xs ys:List α,aA c (xs ++ ys)=aA c xs + aA c ys
 | [],ys=>by simp [aA]
 | x :: l,ys=>by simp only [List.cons_append,aA,x6 c l ys];omega
theorem cC {α:Type} {c: α→Int} {xs:List α} {i:Nat} {x: α} (hx:xs[i]? = some x):aA c (xs.take (i + 1))=aA c (xs.take i) + c x:=by
 rw [fX,hx,x6]
 simp [aA]
theorem c5 {α:Type} {c: α→Int} (h:∀ x,0 ≤ c x) (xs:List α) (i:Nat):aA c (xs.take i) ≤ aA c xs:=by
 have:=x6 c (xs.take i) (xs.drop i)
 rw [List.take_append_drop] at this
 have:=bN h (xs.drop i)
 omega
theorem cU {α:Type} (f:Int→ α→ α) (c: α→Int):∀ {xs:List α} {i:Nat} {x: α} (k:Int),xs[i]? = some x→(kR f c k xs)[i]? = some (f (k + aA c (xs.take i)) x)
 | [],i,x,k,h=>by simp at h
 | y :: l,0,x,k,h=>by
  simp only [List.getElem?_cons_zero,ea] at h
  subst h
  simp [kR,aA]
 | y :: l,i + 1,x,k,h=>by
  have:=cU f c (k + c y) (xs:=l) (i:=i) (by simpa using h)
  simp only [kR,List.getElem?_cons_succ,List.take_succ_cons,aA,this]
  congr 2
  omega
def AU (k:Int) (_:Int):Int:=k
def iw (_:Int):Int:=1
theorem sO (x:Int):0 ≤ iw x:=by simp [iw]
def kS (k:Int) (xs:List Int):List Int:=kR AU iw k xs
def eg (xs:List Int):Int:=aA iw xs
theorem gR (xs:List Int):0 ≤ eg xs:=bN sO xs
theorem l8 (k:Int) (xs:List Int):(kS k xs).length=xs.length:=gu _ _ _ _
abbrev Y4:=kS
abbrev BX:=eg
theorem OE (xs:List Int):0 ≤ BX xs:=gR xs
def lK (k:Int) (xs:List (List Int)):List (List Int):=kR Y4 BX k xs
def bX (xs:List (List Int)):Int:=aA BX xs
theorem l9 (xs:List (List Int)):0 ≤ bX xs:=bN OE xs
theorem kA (k:Int) (xs:List (List Int)):(lK k xs).length=xs.length:=gu _ _ _ _
def tA (k:Int) (x:aQ):aQ:=⟨(k),(k + 1)⟩
def fJ (_:aQ):Int:=1 + 1
theorem qM (x:aQ):0 ≤ fJ x:=by
 unfold fJ
 omega
def kT (k:Int) (xs:List aQ):List aQ:=kR tA fJ k xs
def bF (xs:List aQ):Int:=aA fJ xs
theorem gB (xs:List aQ):0 ≤ bF xs:=bN qM xs
theorem kB (k:Int) (xs:List aQ):(kT k xs).length=xs.length:=gu _ _ _ _
def vI (k:Int) (_:Bool):Bool:=(k.tmod 3 == 0)
def fK (_:Bool):Int:=1
theorem qN (x:Bool):0 ≤ fK x:=by simp [fK]
def mM (k:Int) (xs:List Bool):List Bool:=kR vI fK k xs
def dU (xs:List Bool):Int:=aA fK xs
theorem n8 (xs:List Bool):0 ≤ dU xs:=bN qN xs
theorem kC (k:Int) (xs:List Bool):(mM k xs).length=xs.length:=gu _ _ _ _
def x7 (k:Int) (x:bZ):bZ:=⟨(k),(k + 1)⟩
def gG (_:bZ):Int:=1 + 1
theorem sP (x:bZ):0 ≤ gG x:=by
 unfold gG
 omega
def nX (k:Int) (xs:List bZ):List bZ:=kR x7 gG k xs
def cQ (xs:List bZ):Int:=aA gG xs
theorem nY (xs:List bZ):0 ≤ cQ xs:=bN sP xs
theorem l_ (k:Int) (xs:List bZ):(nX k xs).length=xs.length:=gu _ _ _ _
abbrev Y5:=nX
abbrev x8:=cQ
theorem OF (xs:List bZ):0 ≤ x8 xs:=nY xs
def fo (k:Int) (x:ax):ax:=⟨(nX (k) x.Prog),(k + cQ x.Prog),(k + cQ x.Prog + 1),(kT (k + cQ x.Prog + 1 + 1) x.Written),(kT (k + cQ x.Prog + 1 + 1 + bF x.Written) x.Live),⟨(k + cQ x.Prog + 1 + 1 + bF x.Written + bF x.Live),(k + cQ x.Prog + 1 + 1 + bF x.Written + bF x.Live + 1),((k + cQ x.Prog + 1 + 1 + bF x.Written + bF x.Live + 1 + 1).tmod 3 == 0)⟩,(k + cQ x.Prog + 1 + 1 + bF x.Written + bF x.Live + 1 + 1 + 1),⟨(k + cQ x.Prog + 1 + 1 + bF x.Written + bF x.Live + 1 + 1 + 1 + 1),(k + cQ x.Prog + 1 + 1 + bF x.Written + bF x.Live + 1 + 1 + 1 + 1 + 1),((k + cQ x.Prog + 1 + 1 + bF x.Written + bF x.Live + 1 + 1 + 1 + 1 + 1 + 1).tmod 3 == 0),(k + cQ x.Prog + 1 + 1 + bF x.Written + bF x.Live + 1 + 1 + 1 + 1 + 1 + 1 + 1)⟩,((k + cQ x.Prog + 1 + 1 + bF x.Written + bF x.Live + 1 + 1 + 1 + 1 + 1 + 1 + 1 + 1).tmod 3 == 0),(kS (k + cQ x.Prog + 1 + 1 + bF x.Written + bF x.Live + 1 + 1 + 1 + 1 + 1 + 1 + 1 + 1 + 1) x.Seen)⟩
def ey (x:ax):Int:=cQ x.Prog + 1 + 1 + bF x.Written + bF x.Live + 1 + 1 + 1 + 1 + 1 + 1 + 1 + 1 + 1 + eg x.Seen
theorem oC (x:ax):0 ≤ ey x:=by
 have:=nY x.Prog
 have:=gB x.Written
 have:=gB x.Live
 have:=gR x.Seen
 unfold ey
 omega
def ld (k:Int) (xs:List ax):List ax:=kR fo ey k xs
def eI (xs:List ax):Int:=aA ey xs
theorem vJ (xs:List ax):0 ≤ eI xs:=bN oC xs
theorem jK (k:Int) (xs:List ax):(ld k xs).length=xs.length:=gu _ _ _ _
def tB (k:Int) (x:cE):cE:=⟨(mM (k) x.cG),(kT (k + dU x.cG) x.dQ)⟩
def fL (x:cE):Int:=dU x.cG + bF x.dQ
theorem qO (x:cE):0 ≤ fL x:=by
 have:=n8 x.cG
 have:=gB x.dQ
 unfold fL
 omega
def nK (k:Int) (xs:List cE):List cE:=kR tB fL k xs
def lf (xs:List cE):Int:=aA fL xs
theorem x9 (xs:List cE):0 ≤ lf xs:=bN qO xs
theorem kD (k:Int) (xs:List cE):(nK k xs).length=xs.length:=gu _ _ _ _
def nZ (k:Int) (x:aV):aV:=⟨(kT (k) x.ak),(lK (k + bF x.ak) x.Out),(mM (k + bF x.ak + bX x.Out) x.bI),(ld (k + bF x.ak + bX x.Out + dU x.bI) x.aa),(kS (k + bF x.ak + bX x.Out + dU x.bI + eI x.aa) x.cm),(k + bF x.ak + bX x.Out + dU x.bI + eI x.aa + eg x.cm),(k + bF x.ak + bX x.Out + dU x.bI + eI x.aa + eg x.cm + 1),(nK (k + bF x.ak + bX x.Out + dU x.bI + eI x.aa + eg x.cm + 1 + 1) x.Tables),(k + bF x.ak + bX x.Out + dU x.bI + eI x.aa + eg x.cm + 1 + 1 + lf x.Tables)⟩
def ix (x:aV):Int:=bF x.ak + bX x.Out + dU x.bI + eI x.aa + eg x.cm + 1 + 1 + lf x.Tables + 1
theorem sQ (x:aV):0 ≤ ix x:=by
 have:=gB x.ak
 have:=l9 x.Out
 have:=n8 x.bI
 have:=vJ x.aa
 have:=gR x.cm
 have:=x9 x.Tables
 unfold ix
 omega
def Mr (x:aV):Int:=bF x.ak + bX x.Out + dU x.bI + eI x.aa + eg x.cm + lf x.Tables
def pE (k:Int) (xs:List aV):List aV:=kR nZ ix k xs
def gv (xs:List aV):Int:=aA ix xs
theorem vK (xs:List aV):0 ≤ gv xs:=bN sQ xs
theorem mb (k:Int) (xs:List aV):(pE k xs).length=xs.length:=gu _ _ _ _
def nu (k:Int) (x:bP):bP:=⟨(k),(k + 1),(k + 1 + 1),(k + 1 + 1 + 1)⟩
def eJ (_:bP):Int:=1 + 1 + 1 + 1
theorem oD (x:bP):0 ≤ eJ x:=by
 unfold eJ
 omega
def jg (k:Int) (xs:List bP):List bP:=kR nu eJ k xs
def cY (xs:List bP):Int:=aA eJ xs
theorem jL (xs:List bP):0 ≤ cY xs:=bN oD xs
theorem jM (k:Int) (xs:List bP):(jg k xs).length=xs.length:=gu _ _ _ _
def Y6 (k:Int) (x:ap):ap:=⟨(lK (k) x.au),(pE (k + bX x.au) x.ai),(jg (k + bX x.au + gv x.ai) x.Buffer),(jg (k + bX x.au + gv x.ai + cY x.Buffer) x.aD)⟩
def nv (x:ap):Int:=bX x.au + gv x.ai + cY x.Buffer + cY x.aD
theorem OG (x:ap):0 ≤ nv x:=by
 have:=l9 x.au
 have:=vK x.ai
 have:=jL x.Buffer
 have:=jL x.aD
 unfold nv
 omega
def tC (k:Int) (x:jE):jE:=⟨((k).tmod 3 == 0),(k + 1)⟩
def fM (_:jE):Int:=1 + 1
theorem qP (x:jE):0 ≤ fM x:=by
 unfold fM
 omega
def oE (k:Int) (xs:List jE):List jE:=kR tC fM k xs
def nw (xs:List jE):Int:=aA fM xs
theorem OH (xs:List jE):0 ≤ nw xs:=bN qP xs
theorem kE (k:Int) (xs:List jE):(oE k xs).length=xs.length:=gu _ _ _ _
def Ms (k:Int) (x:dF):dF:=⟨(k),(k + 1),(k + 1 + 1),(k + 1 + 1 + 1),(k + 1 + 1 + 1 + 1),(k + 1 + 1 + 1 + 1 + 1)⟩
def mN (_:dF):Int:=1 + 1 + 1 + 1 + 1 + 1
theorem AV (x:dF):0 ≤ mN x:=by
 unfold mN
 omega
def x_ (k:Int) (xs:List dF):List dF:=kR Ms mN k xs
def yZ (xs:List dF):Int:=aA mN xs
theorem QG (xs:List dF):0 ≤ yZ xs:=bN AV xs
theorem pF (k:Int) (xs:List dF):(x_ k xs).length=xs.length:=gu _ _ _ _
def oF (k:Int) (xs:List (List bZ)):List (List bZ):=kR Y5 x8 k xs
def jN (xs:List (List bZ)):Int:=aA x8 xs
theorem tD (xs:List (List bZ)):0 ≤ jN xs:=bN OF xs
theorem n9 (k:Int) (xs:List (List bZ)):(oF k xs).length=xs.length:=gu _ _ _ _
abbrev Wz:=oF
abbrev uS:=jN
theorem Mt (xs:List (List bZ)):0 ≤ uS xs:=tD xs
def qQ (k:Int) (xs:List (List (List bZ))):List (List (List bZ)):=kR Wz uS k xs
def pG (xs:List (List (List bZ))):Int:=aA uS xs
theorem Mu (xs:List (List (List bZ))):0 ≤ pG xs:=bN Mt xs
theorem mO (k:Int) (xs:List (List (List bZ))):(qQ k xs).length=xs.length:=gu _ _ _ _
theorem AW {α:Type} {f: α→Int→Int} {c: α→Int} (h:∀ x n,0 ≤ f x n→c x ≤ 32 * (n - f x n) + 32):∀ (xs:List α) (n:Int),0 ≤ lQ f xs n→aA c xs ≤ 32 * (n - lQ f xs n) + 32 * xs.length
 | [],n,_=>by simp [lQ,aA]
 | x :: l,n,hn=>by
  unfold lQ at hn ⊢
  split at hn
  omega
  rename_i h0
  rw [if_neg h0]
  have h1:=h x n (by omega)
  have h2:=AW h l _ hn
  simp only [aA,List.length_cons]
  omega
theorem vL {α:Type} {c: α→Int} (h:∀ x,c x ≤ 32):∀ (xs:List α),aA c xs ≤ 32 * xs.length
 | []=>by simp [aA]
 | x :: l=>by
  have h1:=h x
  have h2:=vL h l
  simp only [aA,List.length_cons]
  omega
theorem QH (xs:List bZ) (n:Int) (h:0 ≤ mZ xs n):cQ xs ≤ 32 * (n - mZ xs n):=by
 unfold mZ at h ⊢
 split at h
 omega
 rename_i h0
 rw [if_neg h0]
 have:=vL (c:=gG) (fun x=>by simp [gG]) xs
 unfold cQ
 omega
theorem OI (xs:List bZ) (n:Int) (h:0 ≤ mZ xs n):x8 xs ≤ 32 * (n - mZ xs n) + 32:=by
 have:=QH xs n h
 show cQ xs ≤ _
 omega
theorem QI (xs:List dF) (n:Int) (h:0 ≤ tX xs n):yZ xs ≤ 32 * (n - tX xs n):=by
 unfold tX at h ⊢
 split at h
 omega
 rename_i h0
 rw [if_neg h0]
 have:=vL (c:=mN) (fun x=>by simp [mN]) xs
 unfold yZ
 omega
theorem OJ (xs:List (List bZ)) (n:Int) (h:0 ≤ ji xs n):jN xs ≤ 32 * (n - ji xs n):=by
 unfold ji at h ⊢
 split at h
 omega
 rename_i h0
 rw [if_neg h0]
 have:=AW (c:=x8) (fun x n hx=>OI x n hx) xs _ h
 unfold jN
 omega
theorem Mv (xs:List (List bZ)) (n:Int) (h:0 ≤ ji xs n):uS xs ≤ 32 * (n - ji xs n) + 32:=by
 have:=OJ xs n h
 show jN xs ≤ _
 omega
theorem Mw (xs:List (List (List bZ))) (n:Int) (h:0 ≤ jF xs n):pG xs ≤ 32 * (n - jF xs n):=by
 unfold jF at h ⊢
 split at h
 omega
 rename_i h0
 rw [if_neg h0]
 have:=AW (c:=uS) (fun x n hx=>Mv x n hx) xs _ h
 unfold pG
 omega
end Go.Proofs.YtdliggkohdnipaaGreat.T
