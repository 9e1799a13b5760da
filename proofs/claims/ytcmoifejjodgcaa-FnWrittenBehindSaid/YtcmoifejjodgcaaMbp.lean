
import Derived.Test.YtcmoifejjodgcaaHqp
namespace Go.Proofs.Ytcmoifejjodgcaa.T
open Go
set_option linter.unusedVariables false
set_option linter.unusedSimpArgs false
abbrev inR (n a b : Int) : Bool := decide (a ≤ n ∧ n ≤ b)
def enough (r n : Int) : Bool := inR r 0 3 && inR n 0 3 && decide (iand r n = n)
def insOk (i : VIns) : Bool :=
 if i.Op = 1 ∨ i.Op = 2 ∨ i.Op = 5 ∨ i.Op = 6 then inR i.X 0 99 else if i.Op = 3 ∨ i.Op = 4 then inR i.X 0 15 else if i.Op = 7 then decide (i.X = 0) else if i.Op = 8 then inR i.X 0 11 else false
def progOk (p : List VIns) : Bool := p.all insOk && inR p.length 1 12
def slotOk (s : VSlot) (pages : Int) : Bool := decide (s = ⟨-1, 0⟩) || (decide (0 < pages) && inR s.Page 0 (pages - 1) && inR s.Rights 1 3)
def tableOk (t : List VSlot) (size pages : Int) : Bool := t.all (slotOk · pages) && decide ((t.length : Int) = size)
def ctlFaults (c : VCtl) : List Int :=
 (if inR c.Traps 0 3 then [] else [1]) ++ (if inR c.Post 0 255 then [] else [2]) ++ (if c.Post ≠ 0 ∧ c.Open = false then [3] else []) ++ (if c.Traps = 2 ∧ c.Post ≠ 0 then [4] else [])
def ctlOk (c : VCtl) : Bool := decide ((ctlFaults c).length = 0)
def exitOk (e : VExit) : Bool :=
 if e.Kind = 0 ∨ e.Kind = 4 then decide (e.Page = 0) && !e.Write && decide (e.N = 0) else if e.Kind = 1 then inR e.Page 0 3 && decide (e.N = 0)
 else if e.Kind = 2 ∨ e.Kind = 3 then inR e.N 0 99 && decide (e.Page = 0) && !e.Write else false
abbrev pendOk (p : Int) : Bool := inR p 0 255
def pageOk (c : List Int) : Bool := c.all (inR · 0 99) && decide (c.length = 4)
def memOk (m : List (List Int)) (pages : Int) : Bool := m.all pageOk && decide ((m.length : Int) = pages)
def guestOk (g : VGuest) : Bool :=
 progOk g.Prog && inR g.A 0 99 && inR g.Pc 0 12 && tableOk g.Written 4 8 && tableOk g.Live 4 8 && ctlOk g.Ctl && pendOk g.Pending && exitOk g.Exit && decide (g.Seen.length ≤ 40)
def bareOk (b : VBare) : Bool := b.Guests.all guestOk && memOk b.Memory 8 && inR b.Guests.length 1 2 && decide (b.Outs.length ≤ 40) && pendOk b.Pending
abbrev noSlot : VSlot := ⟨-1, 0⟩
abbrev noMon : VMon := ⟨[], [], [], [], [], 0, 0, [], 0⟩
def outAt (x : VMon) (i : Nat) : Bool := match x.Outer[i]?, x.Out[i]? with
 | some s, some p => if s = noSlot then pageOk p else decide (p.length = 0) && enough s.Rights 1
 | _, _ => false
def monPre (x : VMon) : Bool := inR x.Guests.length 1 2 && decide (x.Tables.length = x.Guests.length) && tableOk x.Outer 8 12 && decide (x.Out.length = 8) && decide (x.Dirty.length = 8)
def monEnd (x : VMon) : Bool := decide (x.Outs.length ≤ 40) && pendOk x.Pending && inR x.Traps 0 3 && inR x.Own 0 1000000000
def monOk (x : VMon) : Bool := monPre x && x.Guests.all guestOk && (List.range 8).all (outAt x) && monEnd x
def mapped (t : List VSlot) : Int := t.countP fun s => decide (s.Page ≠ -1)
def sameE (x y : VEntry) : Bool := decide (x.Tag = y.Tag ∧ x.Page = y.Page)
def noE : VEntry := ⟨0, 0, 0, 0⟩
def okRow (b : List VEntry) (i k : Nat) : Bool := (List.range k).all fun j => !sameE (b[i]?.getD noE) (b[j]?.getD noE)
def bufTo (b : List VEntry) (i : Nat) : Bool := (List.range i).all fun a => okRow b a a
def bufferOk (b : List VEntry) : Bool := bufTo b b.length && decide (b.length ≤ 6)
abbrev noKept : VKept := ⟨[], []⟩
abbrev noGuest : VGuest := ⟨[], 0, 0, [], [], ⟨0, 0, false⟩, 0, ⟨0, 0, false, 0⟩, false, []⟩
abbrev noBare : VBare := ⟨[], [], [], 0⟩
def at? {α : Type} (xs : List α) (i : Int) : Option α := if 0 ≤ i then xs[i.toNat]? else none
def put {α : Type} (xs : List α) (i : Int) (x : α) : List α := if 0 ≤ i then xs.set i.toNat x else xs
def brought (n a b : Int) : Int := if b < a ∨ n < a then a else if n > b then b else n
def bothRights (a b : Int) : Int := if inR a 0 3 && inR b 0 3 then iand a b else 0
def needOf (w : Bool) : Int := if w then 2 else 1
def tableNew (n : Nat) : List VSlot := List.replicate n noSlot
def slotAt (t : List VSlot) (n : Int) : VSlot := (at? t n).getD noSlot
def usesB (t : List VSlot) (page : Int) (k : Nat) : Bool := decide ((t[k]?.getD noSlot).Page = page)
def usesOf (t : List VSlot) (page : Int) : List Int := rangeF (usesB t page) t.length
def memNew (n : Nat) : List (List Int) := List.replicate n [0, 0, 0, 0]
def cellAt (m : List (List Int)) (p c : Int) : Int := ((at? m p).bind fun r => at? r c).getD 0
def withCell (m : List (List Int)) (p c v : Int) : List (List Int) := match at? m p with
 | none => m
 | some r => if inR v 0 99 then put m p (put r c v) else m
def pageAt (m : List (List Int)) (n : Int) : List Int := (at? m n).getD [0, 0, 0, 0]
def withPage (m : List (List Int)) (p : Int) (cells : List Int) : List (List Int) := if pageOk cells then put m p cells else m
def composeSlot (inner : VSlot) (outer : List VSlot) : VSlot :=
 if inner.Page = -1 ∨ (slotAt outer inner.Page).Page = -1 ∨ bothRights inner.Rights (slotAt outer inner.Page).Rights = 0 then noSlot else ⟨(slotAt outer inner.Page).Page, bothRights inner.Rights (slotAt outer inner.Page).Rights⟩
def walkInner (inner : List VSlot) (page need : Int) : Option Int :=
 if (slotAt inner page).Page = -1 ∨ enough (slotAt inner page).Rights need = false ∨ need = 0 then none else some (slotAt inner page).Page
def addrPage (a : Int) : Int := if a < 0 then -1 else a.tdiv 4
def addrCell (a : Int) : Int := if a < 0 then -1 else a.tmod 4
def keptNew : VKept := ⟨List.replicate 4 false, List.replicate 4 noSlot⟩
def keptHas (k : VKept) (page : Int) : Bool := decide (0 ≤ page ∧ page < k.Known.length ∧ page < k.Slots.length)
def fillK (k : VKept) (inner outer : List VSlot) (page : Int) : VKept := match at? inner page with
 | none => k
 | some s => if keptHas k page then ⟨put k.Known page true, put k.Slots page (composeSlot s outer)⟩ else k
def ask (k : VKept) (page : Int) : Option VSlot := if keptHas k page && (at? k.Known page).getD false then at? k.Slots page else none
def forget (k : VKept) (page : Int) : VKept := if keptHas k page then ⟨put k.Known page false, put k.Slots page noSlot⟩ else k
def forgetUses (k : VKept) (inner : List VSlot) (page : Int) : VKept := (usesOf inner page).foldl forget k
def forgetAll (k : VKept) : VKept := (rangeF (fun _ => true) k.Known.length).foldl forget k
def isEntry (tag page : Int) (e : VEntry) : Bool := decide (e.Tag = tag) && decide (e.Page = page)
def findEntry (b : List VEntry) (tag page : Int) : Option VEntry := b.find? (isEntry tag page)
def flushPage (b : List VEntry) (tag page : Int) : List VEntry := b.filter fun e => !isEntry tag page e
def flushHost (b : List VEntry) (host : Int) : List VEntry := b.filter fun e => !decide (e.Host = host)
def putEntry (b : List VEntry) (e : VEntry) : List VEntry := (flushPage b e.Tag e.Page ++ [e]).drop ((flushPage b e.Tag e.Page).length + 1 - 6)
def tagFor (m g : Int) : Int := if inR m 0 2 && inR g 0 1 then 1 + g + m * 2 else 0
def insAt (p : List VIns) (pc : Int) : VIns := (at? p pc).getD ⟨7, 0⟩
def hasTrap (traps trap : Int) : Bool := inR traps 0 3 && inR trap 1 2 && decide (iand traps trap ≠ 0)
def bit (p n : Int) : Bool := decide (iand (p.fdiv (2 ^ n.toNat)) 1 = 1)
def posts (c : VCtl) (n : Int) : Bool := ctlOk c && inR n 0 7 && bit c.Post n
def ownerOf (outer inner trap : Int) : Int := if hasTrap inner trap then 1 else if hasTrap outer trap then 2 else 0
def faultExit (page : Int) (w : Bool) : VExit := ⟨1, page, w, 0⟩
def callExit (n : Int) : VExit := ⟨2, 0, false, n⟩
def outExit (n : Int) : VExit := ⟨3, 0, false, n⟩
abbrev noExit : VExit := ⟨0, 0, false, 0⟩
abbrev haltExit : VExit := ⟨4, 0, false, 0⟩
def postIrq (p n : Int) : Option Int := if pendOk p && inR n 0 7 then some (ior p (2 ^ n.toNat)) else none
def topTo (p : Int) : Nat → Int
 | 0 => -1
 | n + 1 => if bit p n then n else topTo p n
def topIrq (p : Int) : Int := if pendOk p then topTo p 8 else -1
def takeIrq (p : Int) : Option (Int × Int) := if topIrq p < 0 then none else some (p - 2 ^ (topIrq p).toNat, topIrq p)
def guestNew (p : List VIns) : VGuest := { noGuest with Prog := p, Written := tableNew 4, Live := tableNew 4 }
def canRun (g : VGuest) : Bool := decide (g.Exit = noExit) && !g.Halted
def saw (g : VGuest) (n : Int) : VGuest := if g.Seen.length < 40 then { g with Seen := g.Seen ++ [n] } else g
def takesIrq (g : VGuest) : Bool := canRun g && g.Ctl.Open && decide (0 ≤ topIrq g.Pending)
def interrupted (g : VGuest) : VGuest := if takesIrq g then saw { g with Pending := g.Pending - 2 ^ (topIrq g.Pending).toNat } (100 + topIrq g.Pending) else g
def stopped (g : VGuest) (e : VExit) : VGuest := { g with Exit := e }
def wantOf (g : VGuest) : Int :=
 if canRun g = false then 0 else if takesIrq g then 1 else if (insAt g.Prog g.Pc).Op = 3 then 3 else if (insAt g.Prog g.Pc).Op = 4 then 4 else if (insAt g.Prog g.Pc).Op = 5 then 5
 else if (insAt g.Prog g.Pc).Op = 6 then 6 else if (insAt g.Prog g.Pc).Op = 7 then 7 else 2
def moved (g : VGuest) : VGuest := { g with Pc := if g.Pc ≥ 12 then 12 else g.Pc + 1 }
def plainly (g : VGuest) : VGuest :=
 if wantOf g ≠ 2 then g else
 let i := insAt g.Prog g.Pc
 if inR g.A 0 99 && inR i.X 0 99 then
  (if i.Op = 1 then moved { g with A := i.X } else if i.Op = 2 then moved { g with A := (g.A + i.X).tmod 100 } else if i.Op = 8 ∧ g.A = 0 then { g with Pc := i.X } else moved g)
 else moved g
def loaded (g : VGuest) (v : Int) : VGuest := moved (saw { g with A := v } v)
def held (g : VGuest) : VGuest := moved { g with Halted := true }
def address (g : VGuest) : Int := if wantOf g = 3 ∨ wantOf g = 4 then (insAt g.Prog g.Pc).X else -1
def withGuest (b : VBare) (g : Int) (x : VGuest) : VBare := { b with Guests := put b.Guests g x }
def putOut (b : VBare) (n : Int) : VBare := if b.Outs.length < 40 then { b with Outs := b.Outs ++ [n] } else b
def trapOf (want : Int) : Int := if want = 5 then 1 else 2
def trapped (x : VGuest) (want : Int) : VGuest := if want = 5 then stopped x (outExit (insAt x.Prog x.Pc).X) else stopped x haltExit
def touched (b : VBare) (g : Int) (x : VGuest) (w : Bool) : VBare := match walkInner x.Live (addrPage (address x)) (needOf w) with
 | none => withGuest b g (stopped x (faultExit (addrPage (address x)) w))
 | some p => if w then withGuest { b with Memory := withCell b.Memory p (addrCell (address x)) x.A } g (moved x) else withGuest b g (loaded x (cellAt b.Memory p (addrCell (address x))))
def stepOf (b : VBare) (g : Int) (x : VGuest) : VBare :=
 if wantOf x = 1 then withGuest b g (interrupted x) else if wantOf x = 2 then withGuest b g (plainly x) else if wantOf x = 3 then touched b g x false else if wantOf x = 4 then touched b g x true
 else if wantOf x = 6 then withGuest b g (stopped x (callExit (insAt x.Prog x.Pc).X)) else if hasTrap x.Ctl.Traps (trapOf (wantOf x)) then withGuest b g (trapped x (wantOf x))
 else if wantOf x = 5 then withGuest (putOut b (insAt x.Prog x.Pc).X) g (moved x) else withGuest b g (held x)
def onGuest (b : VBare) (g : Int) (f : VGuest → Option VGuest) : Option VBare := if bareOk b then (at? b.Guests g).bind fun x => (f x).map (withGuest b g) else none
def bareStep (b : VBare) (g : Int) : Option VBare := if bareOk b then (at? b.Guests g).bind fun x => if wantOf x = 0 then none else some (stepOf b g x) else none
def bareSet (b : VBare) (g page : Int) (s : VSlot) : Option VBare := onGuest b g fun x => if inR page 0 3 && slotOk s 8 then some { x with Written := put x.Written page s } else none
def bareFlush (b : VBare) (g page : Int) : Option VBare := onGuest b g fun x => if inR page 0 3 then some { x with Live := put x.Live page (slotAt x.Written page) } else none
def bareAnswer (b : VBare) (g v : Int) : Option VBare := onGuest b g fun x => if (x.Exit.Kind = 2 ∨ x.Exit.Kind = 3) ∧ inR v 0 99 = true then some (moved (stopped (if x.Exit.Kind = 2 then { x with A := v } else x) noExit)) else none
def bareResume (b : VBare) (g : Int) : Option VBare := onGuest b g fun x => if x.Exit.Kind = 1 then some (stopped x noExit) else if x.Exit.Kind = 4 then some (held (stopped x noExit)) else none
def bareInject (b : VBare) (g n : Int) : Option VBare := onGuest b g fun x => (postIrq x.Pending n).map fun p => { x with Pending := p }
def bareCtl (b : VBare) (g : Int) (c : VCtl) : Option VBare := onGuest b g fun x => if ctlOk c then some { x with Ctl := c } else none
def barePoke (b : VBare) (page cell v : Int) : Option VBare := if bareOk b && inR page 0 7 && inR cell 0 3 && inR v 0 99 then some { b with Memory := withCell b.Memory page cell v } else none
def postedG (n : Int) (g : VGuest) : VGuest := if posts g.Ctl n then { g with Pending := (postIrq g.Pending n).getD g.Pending } else g
def barePost (b : VBare) (n : Int) : Option VBare :=
 if bareOk b && inR n 0 7 then some (if b.Guests.any (fun g => posts g.Ctl n) then { b with Guests := b.Guests.map (postedG n) } else { b with Pending := (postIrq b.Pending n).getD b.Pending }) else none
def bareAck (b : VBare) : Option (VBare × Int) := if bareOk b then (takeIrq b.Pending).map fun q => ({ b with Pending := q.1 }, q.2) else none
def reach (b : VBare) (g addr need : Int) : Option Int := if bareOk b && inR addr 0 15 then (at? b.Guests g).bind fun x => walkInner x.Live (addrPage addr) need else none
def bareDma (b : VBare) (g addr v : Int) : Option VBare := if inR v 0 99 then (reach b g addr 2).map fun p => { b with Memory := withCell b.Memory p (addrCell addr) v } else none
def bareRead (b : VBare) (g addr : Int) : Option Int := (reach b g addr 1).map fun p => cellAt b.Memory p (addrCell addr)
end Go.Proofs.Ytcmoifejjodgcaa.T

namespace Go.Proofs.Ytcmoifejjodgcaa.T
open Go
set_option linter.unusedVariables false
set_option linter.unusedSimpArgs false
def monNew (ps : List (List VIns)) : VMon := ⟨tableNew 8, memNew 8, List.replicate 8 false, (ps.take 2).map guestNew, [], 0, 0, (ps.take 2).map fun _ => keptNew, 0⟩
def hostNew (all : List (List (List VIns))) : VHost := ⟨memNew 12, (all.take 3).map monNew, [], []⟩
def pagesOf (t : List VSlot) : List Int := (t.map fun s => s.Page).filter fun p => decide (0 ≤ p)
def pagesIn (x : VMon) : List Int := pagesOf x.Outer
def hostOk (h : VHost) : Bool := memOk h.Memory 12 && inR h.Mons.length 1 3 && bufferOk h.Buffer && bufferOk h.IoBuffer && h.Mons.all monOk && decide (h.Mons.flatMap pagesIn).Nodup
abbrev monAt (h : VHost) (m : Int) : Option VMon := at? h.Mons m
def pageOf (h : VHost) (m n : Int) : List Int := match monAt h m with
 | none => [0, 0, 0, 0]
 | some x => if 0 ≤ n ∧ n ≤ 7 then (if (slotAt x.Outer n).Page ≠ -1 then pageAt h.Memory (slotAt x.Outer n).Page else pageAt x.Out n) else [0, 0, 0, 0]
def pagesTo (h : VHost) (m : Int) (i : Nat) : List (List Int) := (List.range i).map fun (k : Nat) => pageOf h m k
def seenAs (h : VHost) (m : Int) : VBare := match monAt h m with
 | none => noBare
 | some x => ⟨pagesTo h m 8, x.Guests, x.Outs, x.Pending⟩
def allSeenAs (h : VHost) : List VBare := (List.range h.Mons.length).map fun (k : Nat) => seenAs h k
def save (h : VHost) : VSaved := ⟨allSeenAs h, h.Mons.map fun x => x.Traps, h.Mons.map fun x => x.Own⟩
def leftAt (x : VMon) (v : VMove) (i : Nat) : Bool := decide ((v.Have[i]?.getD []).length = 0) || x.Dirty[i]?.getD false
def moveLeft (h : VHost) (v : VMove) : List Int := match monAt h v.M with
 | none => []
 | some x => if v.Have.length = 8 then rangeF (leftAt x v) 8 else []
def mon (h : VHost) (m : Nat) : VMon := h.Mons[m]?.getD noMon
def setMon (h : VHost) (m : Nat) (x : VMon) : VHost := { h with Mons := h.Mons.set m x }
def slotOf (h : VHost) (m p : Nat) : VSlot := (mon h m).Outer[p]?.getD noSlot
def ownerIn (t : List VSlot) (page : Int) : Option Nat := t.findIdx? fun s => decide (s.Page = page)
def ownerTo (l : List VMon) (page : Int) (m : Nat) : Option (Nat × Nat) := match l with
 | [] => none
 | x :: l => match ownerIn x.Outer page with | some p => some (m, p) | none => ownerTo l page (m + 1)
def ownerOfPage (h : VHost) (page : Int) : Option (Nat × Nat) := if 0 ≤ page then ownerTo h.Mons page 0 else none
def freeB (h : VHost) (p : Nat) : Bool := (ownerOfPage h p).isNone
def freeIn (h : VHost) : List Int := rangeF (freeB h) h.Memory.length
def lessKept (x : VMon) (page : Int) : List VKept := List.zipWith (fun k (g : VGuest) => forgetUses k g.Live page) x.Tables x.Guests
def slotSet (h : VHost) (m p : Nat) (s : VSlot) : VHost :=
 let x := mon h m
 let old := (slotOf h m p).Page
 {h with Mons := h.Mons.set m { x with Tables := lessKept x p, Outer := x.Outer.set p s }, Buffer := if old = -1 then h.Buffer else flushHost h.Buffer old, IoBuffer := if old = -1 then h.IoBuffer else flushHost h.IoBuffer old }
def setOut (h : VHost) (m p : Nat) (cells : List Int) : VHost := setMon h m { mon h m with Out := (mon h m).Out.set p cells }
def setDirty (h : VHost) (m p : Nat) (b : Bool) : VHost := setMon h m { mon h m with Dirty := (mon h m).Dirty.set p b }
def sendOut (h : VHost) (m p : Nat) : VHost := slotSet (setOut h m p (pageAt h.Memory (slotOf h m p).Page)) m p noSlot
def roomFor (h : VHost) : VHost := match freeIn h with
 | [] => (match ownerOfPage h 0 with | some (m, p) => sendOut h m p | none => h)
 | _ => h
def takeIn (h : VHost) (m p : Nat) : VHost :=
 let to := (freeIn h).headD 0
 slotSet (setOut { h with Memory := withPage h.Memory to ((mon h m).Out[p]?.getD []) } m p []) m p ⟨to, 3⟩
def fetchIn (h : VHost) (m p : Nat) : VHost := takeIn (roomFor h) m p
def hasPage (h : VHost) (m page : Int) : Bool := hostOk h && decide (0 ≤ m ∧ m < h.Mons.length) && inR page 0 7
def pageOut (h : VHost) (m page : Int) : Option VHost := if hasPage h m page && decide ((slotOf h m.toNat page.toNat).Page ≠ -1) then some (sendOut h m.toNat page.toNat) else none
def pageIn (h : VHost) (m page : Int) : Option VHost := if hasPage h m page && decide ((slotOf h m.toNat page.toNat).Page = -1) then some (fetchIn h m.toNat page.toNat) else none
def guardP (h : VHost) (m p : Nat) : VHost := if (slotOf h m p).Page = -1 then setDirty h m p false else slotSet (setDirty h m p false) m p ⟨(slotOf h m p).Page, 1⟩
def guard (h : VHost) (m page : Int) : Option VHost := if hasPage h m page then some (guardP h m.toNat page.toNat) else none
def soil (h : VHost) (m p : Nat) : VHost := if iand (slotOf h m p).Rights 2 = 0 then slotSet (setDirty h m p true) m p ⟨(slotOf h m p).Page, 3⟩ else setDirty h m p true
def mendP (h : VHost) (m p : Nat) (need : Int) : VHost :=
 let h1 := if (slotOf h m p).Page = -1 then fetchIn h m p else h
 if iand need 2 = 0 then h1 else soil h1 m p
def setTable (h : VHost) (m g : Nat) (k : VKept) : VHost := setMon h m { mon h m with Tables := (mon h m).Tables.set g k }
def setGuest (h : VHost) (m g : Nat) (u : VGuest) : VHost := setMon h m { mon h m with Guests := (mon h m).Guests.set g u }
def bufOf (h : VHost) (io : Bool) : List VEntry := if io then h.IoBuffer else h.Buffer
def setBuf (h : VHost) (io : Bool) (b : List VEntry) : VHost := if io then { h with IoBuffer := b } else { h with Buffer := b }
def kept (h : VHost) (m g : Nat) : VKept := (mon h m).Tables[g]?.getD noKept
def guestOf (h : VHost) (m g : Nat) : VGuest := (mon h m).Guests[g]?.getD noGuest
def lets (s : Option VSlot) (need : Int) : Bool := match s with | some s => decide (s.Page ≠ -1) && enough s.Rights need | none => false
def filled (h : VHost) (m g : Nat) (page : Int) (q : Nat) (need : Int) : VHost :=
 if lets (ask (kept h m g) page) need then h else
 let h1 := mendP h m q need
 setTable h1 m g (fillK (kept h1 m g) (guestOf h1 m g).Live (mon h1 m).Outer page)
def findP (h : VHost) (m g : Nat) (page need : Int) (io : Bool) (q : Nat) : VHost × Int :=
 let h0 := if need = 2 then setDirty h m q true else h
 match (findEntry (bufOf h0 io) (tagFor m g) page).filter (fun e => enough e.Rights need) with
 | some e => (h0, e.Host)
 | none =>
  let h1 := filled h0 m g page q need
  let s := (ask (kept h1 m g) page).getD noSlot
  (setBuf h1 io (putEntry (bufOf h1 io) ⟨tagFor m g, page, s.Page, s.Rights⟩), s.Page)
def hasGuest (h : VHost) (m g : Int) : Bool := hostOk h && decide (0 ≤ m ∧ m < h.Mons.length) && decide (0 ≤ g ∧ g < (mon h m.toNat).Guests.length)
def find (h : VHost) (m g page need : Int) (io : Bool) : Option (VHost × Int) :=
 if hasGuest h m g && (decide (need = 1) || decide (need = 2)) then (walkInner (guestOf h m.toNat g.toNat).Live page need).map fun q => findP h m.toNat g.toNat page need io q.toNat else none
def coldM (x : VMon) : VMon := { x with Tables := x.Tables.map forgetAll }
def cold (h : VHost) : VHost := { h with Mons := h.Mons.map coldM, Buffer := [], IoBuffer := [] }
def touchedH (h : VHost) (m g : Nat) (x : VGuest) (w : Bool) : VHost := match find h m g (addrPage (address x)) (needOf w) false with
 | none => setGuest h m g (stopped x (faultExit (addrPage (address x)) w))
 | some (h1, p) => if w then setGuest { h1 with Memory := withCell h1.Memory p (addrCell (address x)) x.A } m g (moved x) else setGuest h1 m g (loaded x (cellAt h1.Memory p (addrCell (address x))))
def ownUp (x : VMon) : VMon := if x.Own < 1000000000 then { x with Own := x.Own + 1 } else x
def outUp (x : VMon) (n : Int) : VMon := if x.Outs.length < 40 then { x with Outs := x.Outs ++ [n] } else x
def leftBy (x : VMon) (g : Nat) (u : VGuest) (want : Int) : VMon :=
 let o := ownerOf x.Traps u.Ctl.Traps (trapOf want)
 if o = 1 then { x with Guests := x.Guests.set g (trapped u want) } else
 let y := if o = 2 then ownUp x else x
 if want = 7 then { y with Guests := y.Guests.set g (held u) } else
 let z := outUp y (insAt u.Prog u.Pc).X
 {z with Guests := z.Guests.set g (moved u) }
def stepH (h : VHost) (m g : Nat) (u : VGuest) : VHost :=
 if wantOf u = 1 then setGuest h m g (interrupted u) else if wantOf u = 2 then setGuest h m g (plainly u) else if wantOf u = 3 then touchedH h m g u false else if wantOf u = 4 then touchedH h m g u true
 else if wantOf u = 6 then setGuest h m g (stopped u (callExit (insAt u.Prog u.Pc).X)) else setMon h m (leftBy (mon h m) g u (wantOf u))
def hostStep (h : VHost) (m g : Int) : Option VHost := if hasGuest h m g then (if wantOf (guestOf h m.toNat g.toNat) = 0 then none else some (stepH h m.toNat g.toNat (guestOf h m.toNat g.toNat))) else none
def hasMon (h : VHost) (m : Int) : Bool := hostOk h && decide (0 ≤ m ∧ m < h.Mons.length)
def setTraps (h : VHost) (m traps : Int) : Option VHost := if hasMon h m && inR traps 0 3 then some (setMon h m.toNat { mon h m.toNat with Traps := traps }) else none
def viewOf (x : VMon) : VBare := ⟨memNew 8, x.Guests, x.Outs, x.Pending⟩
def backTo (h : VHost) (m : Nat) (b : VBare) : VHost := setMon h m { mon h m with Guests := b.Guests, Pending := b.Pending }
def onMon (h : VHost) (m : Int) (f : VBare → Option VBare) : Option VHost := if hasMon h m then (f (viewOf (mon h m.toNat))).map (backTo h m.toNat) else none
def hostFlush (h : VHost) (m g page : Int) : Option VHost := (onMon h m fun b => bareFlush b g page).map fun h1 =>
 let h2 := setTable h1 m.toNat g.toNat (forget (kept h1 m.toNat g.toNat) page)
 {h2 with Buffer := flushPage h2.Buffer (tagFor m g) page, IoBuffer := flushPage h2.IoBuffer (tagFor m g) page }
def hostPoke (h : VHost) (m page cell v : Int) : Option VHost := if hasPage h m page && inR cell 0 3 && inR v 0 99 then
 (let h1 := mendP h m.toNat page.toNat 2
  some { h1 with Memory := withCell h1.Memory (slotOf h1 m.toNat page.toNat).Page cell v }) else none
def hostAck (h : VHost) (m : Int) : Option (VHost × Int) := if hasMon h m then (bareAck (viewOf (mon h m.toNat))).map fun q => (backTo h m.toNat q.1, q.2) else none
def hostDma (h : VHost) (m g addr v : Int) : Option VHost := if inR addr 0 15 && inR v 0 99 then (find h m g (addrPage addr) 2 true).map fun q => { q.1 with Memory := withCell q.1.Memory q.2 (addrCell addr) v } else none
def hostRead (h : VHost) (m g addr : Int) : Option (VHost × Int) := if inR addr 0 15 then (find h m g (addrPage addr) 1 true).map fun q => (q.1, cellAt q.1.Memory q.2 (addrCell addr)) else none
def isOuter (k : Int) : Bool := inR k 13 17
def actOk (a : VAct) : Bool := inR a.Kind 1 17
def ctlOf (a : VAct) : VCtl := ⟨a.X, a.Y, decide (a.Z = 1)⟩
def yields {α : Type} (x : α) (q : Option α) : α × VTold := (q.getD x, ⟨q.isSome, 0⟩)
def yieldsN {α : Type} (x : α) (n : Int) (q : Option (α × Int)) : α × VTold := match q with | some q => (q.1, ⟨true, q.2⟩) | none => (x, ⟨false, n⟩)
def hostAct (h : VHost) (a : VAct) : VHost × VTold :=
 if a.Kind = 1 then yields h (hostStep h a.M a.G)
 else if a.Kind = 2 then yields h (onMon h a.M fun b => bareSet b a.G a.X ⟨a.Y, a.Z⟩)
 else if a.Kind = 3 then yields h (hostFlush h a.M a.G a.X)
 else if a.Kind = 4 then yields h (onMon h a.M fun b => bareAnswer b a.G a.X)
 else if a.Kind = 5 then yields h (onMon h a.M fun b => bareResume b a.G)
 else if a.Kind = 6 then yields h (onMon h a.M fun b => bareInject b a.G a.X)
 else if a.Kind = 7 then yields h (onMon h a.M fun b => bareCtl b a.G (ctlOf a))
 else if a.Kind = 8 then yields h (hostPoke h a.M a.X a.Y a.Z)
 else if a.Kind = 9 then yields h (onMon h a.M fun b => barePost b a.X)
 else if a.Kind = 10 then yieldsN h (-1) (hostAck h a.M)
 else if a.Kind = 11 then yields h (hostDma h a.M a.G a.X a.Y)
 else if a.Kind = 12 then yieldsN h 0 (hostRead h a.M a.G a.X)
 else if a.Kind = 13 then yields h (pageOut h a.M a.X)
 else if a.Kind = 14 then yields h (pageIn h a.M a.X)
 else if a.Kind = 15 then yields h (guard h a.M a.X)
 else if a.Kind = 16 then yields h (setTraps h a.M a.X)
 else if a.Kind = 17 then (cold h, ⟨true, 0⟩)
 else (h, ⟨false, 0⟩)
def bareAct1 (b : VBare) (a : VAct) : VBare × VTold :=
 if a.Kind = 1 then yields b (bareStep b a.G)
 else if a.Kind = 2 then yields b (bareSet b a.G a.X ⟨a.Y, a.Z⟩)
 else if a.Kind = 3 then yields b (bareFlush b a.G a.X)
 else if a.Kind = 4 then yields b (bareAnswer b a.G a.X)
 else if a.Kind = 5 then yields b (bareResume b a.G)
 else if a.Kind = 6 then yields b (bareInject b a.G a.X)
 else if a.Kind = 7 then yields b (bareCtl b a.G (ctlOf a))
 else if a.Kind = 8 then yields b (barePoke b a.X a.Y a.Z)
 else if a.Kind = 9 then yields b (barePost b a.X)
 else if a.Kind = 10 then yieldsN b (-1) (bareAck b)
 else if a.Kind = 11 then yields b (bareDma b a.G a.X a.Y)
 else if a.Kind = 12 then yieldsN b 0 ((bareRead b a.G a.X).map fun n => (b, n))
 else (b, ⟨false, 0⟩)
def bareAct (l : List VBare) (a : VAct) : List VBare × VTold :=
 if actOk a && !isOuter a.Kind then (match at? l a.M with
  | some b => (put l a.M (bareAct1 b a).1, (bareAct1 b a).2)
  | none => (l, ⟨false, if a.Kind = 10 then -1 else 0⟩))
 else (l, ⟨false, 0⟩)
def guardTo (h : VHost) (m : Int) : Nat → VHost
 | 0 => h
 | n + 1 => (guard (guardTo h m n) m n).getD (guardTo h m n)
def moves (h : VHost) (v : VMove) : Bool := hasMon h v.M && decide (v.Have.length = 8)
def moveCopy (h : VHost) (v : VMove) (page : Int) : Option (VHost × VMove) := if moves h v && inR page 0 7 then some ((guard h v.M page).getD h, { v with Have := put v.Have page (pageOf h v.M page) }) else none
def fillLeft (h : VHost) (v : VMove) : List Int → List (List Int) → List (List Int)
 | [], o => o
 | p :: l, o => fillLeft h v l (put o p (pageOf h v.M p))
def moveImage (h : VHost) (v : VMove) : Option VMon := if moves h v then (at? h.Mons v.M).map fun x => { x with Out := fillLeft h v (moveLeft h v) v.Have, Outer := tableNew 8, Dirty := List.replicate 8 false, Tables := x.Tables.map fun _ => keptNew } else none
def outTo (h : VHost) (m : Int) : Nat → VHost
 | 0 => h
 | n + 1 => (pageOut (outTo h m n) m n).getD (outTo h m n)
def land (h : VHost) (x : VMon) : Option VHost := if hostOk h && decide (h.Mons.length < 3) && monOk x && decide (mapped x.Outer ≤ 0) then some { h with Mons := h.Mons ++ [x] } else none
def moveNew (m : Int) : VMove := ⟨m, List.replicate 8 []⟩
def copyAll (h : VHost) (v : VMove) : List Int → VHost × VMove
 | [] => (h, v)
 | p :: l => match moveCopy h v p with | some q => copyAll q.1 q.2 l | none => copyAll h v l
def monBegin (b : VBare) (traps own : Int) : VMon := ⟨tableNew 8, b.Memory, List.replicate 8 false, b.Guests, b.Outs, b.Pending, traps, b.Guests.map fun _ => keptNew, own⟩
def beginTo (s : VSaved) (n : Nat) : List VMon := (List.range n).map fun k => monBegin (s.Mons[k]?.getD noBare) (s.Traps[k]?.getD 0) (s.Own[k]?.getD 0)
end Go.Proofs.Ytcmoifejjodgcaa.T

