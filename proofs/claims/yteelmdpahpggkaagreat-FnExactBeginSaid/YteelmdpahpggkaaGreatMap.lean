/- The machine in plain Lean: words, tables, memory, guests, machines of their own. No program in sight. No condition. -/
import Derived.Test.YteelmdpahpggkaaGreatHqp
namespace Go.Proofs.YteelmdpahpggkaaGreat.T
open Go
set_option linter.unusedVariables false
set_option linter.unusedSimpArgs false

abbrev inR (n a b : Int) : Bool := decide (a ≤ n ∧ n ≤ b)
def enough (r n : Int) : Bool := inR r 0 3 && inR n 0 3 && decide (iand r n = n)

def insOk (i : VIns) : Bool :=
  if i.Op = 1 ∨ i.Op = 2 ∨ i.Op = 5 ∨ i.Op = 6 then inR i.X 0 99 else if i.Op = 3 ∨ i.Op = 4 then inR i.X 0 15 else if i.Op = 7 then decide (i.X = 0) else if i.Op = 8 then inR i.X 0 11 else false
def progOk (p : List VIns) : Bool := p.all insOk && inR p.length 1 12
def slotOk (s : VSlot) (pages : Int) : Bool := decide (s = ⟨-1, 0⟩) || (decide (0 < pages) && inR s.Page 0 (pages - 1) && inR s.Rights 1 3)
def tableOk (t : List VSlot) (size pages : Int) : Bool := t.all (slotOk · pages) && decide ((t.length : Int) = size)
def ctlFaults (c : VCtl) : List Int :=
  (if inR c.Traps 0 3 then [] else [1]) ++ (if inR c.Post 0 255 then [] else [2]) ++ (if c.Post ≠ 0 ∧ c.Open = false then [3] else []) ++ (if c.Traps = 2 ∧ c.Post ≠ 0 then [4] else [])
def ctlOk (c : VCtl) : Bool := decide ((ctlFaults c).length = 0)
def exitOk (e : VExit) : Bool :=
  if e.Kind = 0 ∨ e.Kind = 4 then decide (e.Page = 0) && !e.Write && decide (e.N = 0) else if e.Kind = 1 then inR e.Page 0 3 && decide (e.N = 0)
  else if e.Kind = 2 ∨ e.Kind = 3 then inR e.N 0 99 && decide (e.Page = 0) && !e.Write else false
abbrev pendOk (p : Int) : Bool := inR p 0 255
def pageOk (c : List Int) : Bool := c.all (inR · 0 99) && decide (c.length = 4)
def memOk (m : List (List Int)) (pages : Int) : Bool := m.all pageOk && decide ((m.length : Int) = pages)
def guestOk (g : VGuest) : Bool :=
  progOk g.Prog && inR g.A 0 99 && inR g.Pc 0 12 && tableOk g.Written 4 8 && tableOk g.Live 4 8 && ctlOk g.Ctl && pendOk g.Pending && exitOk g.Exit && decide (g.Seen.length ≤ 40)
def bareOk (b : VBare) : Bool := b.Guests.all guestOk && memOk b.Memory 8 && inR b.Guests.length 1 2 && decide (b.Outs.length ≤ 40) && pendOk b.Pending

abbrev noSlot : VSlot := ⟨-1, 0⟩
abbrev noMon : VMon := ⟨[], [], [], [], [], 0, 0, [], 0⟩
def outAt (x : VMon) (i : Nat) : Bool := match x.Outer[i]?, x.Out[i]? with
  | some s, some p => if s = noSlot then pageOk p else decide (p.length = 0) && enough s.Rights 1
  | _, _ => false
def monPre (x : VMon) : Bool := inR x.Guests.length 1 2 && decide (x.Tables.length = x.Guests.length) && tableOk x.Outer 8 12 && decide (x.Out.length = 8) && decide (x.Dirty.length = 8)
def monEnd (x : VMon) : Bool := decide (x.Outs.length ≤ 40) && pendOk x.Pending && inR x.Traps 0 3 && inR x.Own 0 1000000000
def monOk (x : VMon) : Bool := monPre x && x.Guests.all guestOk && (List.range 8).all (outAt x) && monEnd x
def sameE (x y : VEntry) : Bool := decide (x.Tag = y.Tag ∧ x.Page = y.Page)
def noE : VEntry := ⟨0, 0, 0, 0⟩
def okRow (b : List VEntry) (i k : Nat) : Bool := (List.range k).all fun j => !sameE (b[i]?.getD noE) (b[j]?.getD noE)
def bufTo (b : List VEntry) (i : Nat) : Bool := (List.range i).all fun a => okRow b a a
def bufferOk (b : List VEntry) : Bool := bufTo b b.length && decide (b.length ≤ 6)
abbrev noKept : VKept := ⟨[], []⟩
abbrev noGuest : VGuest := ⟨[], 0, 0, [], [], ⟨0, 0, false⟩, 0, ⟨0, 0, false, 0⟩, false, []⟩
abbrev noBare : VBare := ⟨[], [], [], 0⟩
abbrev noHost : VHost := ⟨[], [], [], []⟩
/-- the element with a number, if there is one -/
def at? {α : Type} (xs : List α) (i : Int) : Option α := if 0 ≤ i then xs[i.toNat]? else none
/-- another element at a number, if there is one -/
def put {α : Type} (xs : List α) (i : Int) (x : α) : List α := if 0 ≤ i then xs.set i.toNat x else xs
def brought (n a b : Int) : Int := if b < a ∨ n < a then a else if n > b then b else n
/- rights -/
def bothRights (a b : Int) : Int := if inR a 0 3 && inR b 0 3 then iand a b else 0
/- tables -/
def tableNew (n : Nat) : List VSlot := List.replicate n noSlot
def slotAt (t : List VSlot) (n : Int) : VSlot := (at? t n).getD noSlot
def usesB (t : List VSlot) (page : Int) (k : Nat) : Bool := decide ((t[k]?.getD noSlot).Page = page)
def usesOf (t : List VSlot) (page : Int) : List Int := rangeF (usesB t page) t.length
/- memory -/
def memNew (n : Nat) : List (List Int) := List.replicate n [0, 0, 0, 0]
def cellAt (m : List (List Int)) (p c : Int) : Int := ((at? m p).bind fun r => at? r c).getD 0
def pageAt (m : List (List Int)) (n : Int) : List Int := (at? m n).getD [0, 0, 0, 0]
def withPage (m : List (List Int)) (p : Int) (cells : List Int) : List (List Int) := if pageOk cells then put m p cells else m
/- two levels -/
def composeSlot (inner : VSlot) (outer : List VSlot) : VSlot :=
  if inner.Page = -1 ∨ (slotAt outer inner.Page).Page = -1 ∨ bothRights inner.Rights (slotAt outer inner.Page).Rights = 0 then noSlot else ⟨(slotAt outer inner.Page).Page, bothRights inner.Rights (slotAt outer inner.Page).Rights⟩
/- tables kept -/
def keptNew : VKept := ⟨List.replicate 4 false, List.replicate 4 noSlot⟩
def keptHas (k : VKept) (page : Int) : Bool := decide (0 ≤ page ∧ page < k.Known.length ∧ page < k.Slots.length)
def fillK (k : VKept) (inner outer : List VSlot) (page : Int) : VKept := match at? inner page with
  | none => k
  | some s => if keptHas k page then ⟨put k.Known page true, put k.Slots page (composeSlot s outer)⟩ else k
def ask (k : VKept) (page : Int) : Option VSlot := if keptHas k page && (at? k.Known page).getD false then at? k.Slots page else none
def forget (k : VKept) (page : Int) : VKept := if keptHas k page then ⟨put k.Known page false, put k.Slots page noSlot⟩ else k
def forgetUses (k : VKept) (inner : List VSlot) (page : Int) : VKept := (usesOf inner page).foldl forget k
/- buffers -/
def flushHost (b : List VEntry) (host : Int) : List VEntry := b.filter fun e => !decide (e.Host = host)
/- code -/
def insAt (p : List VIns) (pc : Int) : VIns := (at? p pc).getD ⟨7, 0⟩
/-- Is a bit set? -/
def bit (p n : Int) : Bool := decide (iand (p.fdiv (2 ^ n.toNat)) 1 = 1)
abbrev noExit : VExit := ⟨0, 0, false, 0⟩
/- interrupts -/
def topTo (p : Int) : Nat → Int
  | 0 => -1
  | n + 1 => if bit p n then n else topTo p n
def topIrq (p : Int) : Int := if pendOk p then topTo p 8 else -1
/- guests -/
def guestNew (p : List VIns) : VGuest := { noGuest with Prog := p, Written := tableNew 4, Live := tableNew 4 }
def canRun (g : VGuest) : Bool := decide (g.Exit = noExit) && !g.Halted
def saw (g : VGuest) (n : Int) : VGuest := if g.Seen.length < 40 then { g with Seen := g.Seen ++ [n] } else g
def takesIrq (g : VGuest) : Bool := canRun g && g.Ctl.Open && decide (0 ≤ topIrq g.Pending)
def interrupted (g : VGuest) : VGuest := if takesIrq g then saw { g with Pending := g.Pending - 2 ^ (topIrq g.Pending).toNat } (100 + topIrq g.Pending) else g
def stopped (g : VGuest) (e : VExit) : VGuest := { g with Exit := e }
def wantOf (g : VGuest) : Int :=
  if canRun g = false then 0 else if takesIrq g then 1 else if (insAt g.Prog g.Pc).Op = 3 then 3 else if (insAt g.Prog g.Pc).Op = 4 then 4 else if (insAt g.Prog g.Pc).Op = 5 then 5
  else if (insAt g.Prog g.Pc).Op = 6 then 6 else if (insAt g.Prog g.Pc).Op = 7 then 7 else 2
def moved (g : VGuest) : VGuest := { g with Pc := if g.Pc ≥ 12 then 12 else g.Pc + 1 }
def plainly (g : VGuest) : VGuest :=
  if wantOf g ≠ 2 then g else
  let i := insAt g.Prog g.Pc
  if inR g.A 0 99 && inR i.X 0 99 then
    (if i.Op = 1 then moved { g with A := i.X } else if i.Op = 2 then moved { g with A := (g.A + i.X).tmod 100 } else if i.Op = 8 ∧ g.A = 0 then { g with Pc := i.X } else moved g)
  else moved g
def loaded (g : VGuest) (v : Int) : VGuest := moved (saw { g with A := v } v)
def held (g : VGuest) : VGuest := moved { g with Halted := true }
def address (g : VGuest) : Int := if wantOf g = 3 ∨ wantOf g = 4 then (insAt g.Prog g.Pc).X else -1
/- the machine of its own -/
end Go.Proofs.YteelmdpahpggkaaGreat.T

