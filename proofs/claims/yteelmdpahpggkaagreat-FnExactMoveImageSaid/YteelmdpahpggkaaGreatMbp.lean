/- The machine in plain Lean: hosts, acts, moves, what is put away. No program in sight. No condition. -/
import Derived.Test.YteelmdpahpggkaaGreatMap
namespace Go.Proofs.YteelmdpahpggkaaGreat.T
open Go
set_option linter.unusedVariables false
set_option linter.unusedSimpArgs false

/- hosts -/
def pagesOf (t : List VSlot) : List Int := (t.map fun s => s.Page).filter fun p => decide (0 ≤ p)
def pagesIn (x : VMon) : List Int := pagesOf x.Outer
def hostOk (h : VHost) : Bool := memOk h.Memory 12 && inR h.Mons.length 1 3 && bufferOk h.Buffer && bufferOk h.IoBuffer && h.Mons.all monOk && decide (h.Mons.flatMap pagesIn).Nodup
abbrev monAt (h : VHost) (m : Int) : Option VMon := at? h.Mons m
def pageOf (h : VHost) (m n : Int) : List Int := match monAt h m with
  | none => [0, 0, 0, 0]
  | some x => if 0 ≤ n ∧ n ≤ 7 then (if (slotAt x.Outer n).Page ≠ -1 then pageAt h.Memory (slotAt x.Outer n).Page else pageAt x.Out n) else [0, 0, 0, 0]
def leftAt (x : VMon) (v : VMove) (i : Nat) : Bool := decide ((v.Have[i]?.getD []).length = 0) || x.Dirty[i]?.getD false
def moveLeft (h : VHost) (v : VMove) : List Int := match monAt h v.M with
  | none => []
  | some x => if v.Have.length = 8 then rangeF (leftAt x v) 8 else []
def mon (h : VHost) (m : Nat) : VMon := h.Mons[m]?.getD noMon
def setMon (h : VHost) (m : Nat) (x : VMon) : VHost := { h with Mons := h.Mons.set m x }
def slotOf (h : VHost) (m p : Nat) : VSlot := (mon h m).Outer[p]?.getD noSlot
/- paging -/
def ownerIn (t : List VSlot) (page : Int) : Option Nat := t.findIdx? fun s => decide (s.Page = page)
def ownerTo (l : List VMon) (page : Int) (m : Nat) : Option (Nat × Nat) := match l with
  | [] => none
  | x :: l => match ownerIn x.Outer page with | some p => some (m, p) | none => ownerTo l page (m + 1)
def ownerOfPage (h : VHost) (page : Int) : Option (Nat × Nat) := if 0 ≤ page then ownerTo h.Mons page 0 else none
def freeB (h : VHost) (p : Nat) : Bool := (ownerOfPage h p).isNone
def freeIn (h : VHost) : List Int := rangeF (freeB h) h.Memory.length
/-- what depends on a page is forgotten -/
def lessKept (x : VMon) (page : Int) : List VKept := List.zipWith (fun k (g : VGuest) => forgetUses k g.Live page) x.Tables x.Guests
/-- a page gets another slot -/
def slotSet (h : VHost) (m p : Nat) (s : VSlot) : VHost :=
  let x := mon h m
  let old := (slotOf h m p).Page
  { h with Mons := h.Mons.set m { x with Tables := lessKept x p, Outer := x.Outer.set p s }, Buffer := if old = -1 then h.Buffer else flushHost h.Buffer old, IoBuffer := if old = -1 then h.IoBuffer else flushHost h.IoBuffer old }
def setOut (h : VHost) (m p : Nat) (cells : List Int) : VHost := setMon h m { mon h m with Out := (mon h m).Out.set p cells }
def setDirty (h : VHost) (m p : Nat) (b : Bool) : VHost := setMon h m { mon h m with Dirty := (mon h m).Dirty.set p b }
def sendOut (h : VHost) (m p : Nat) : VHost := slotSet (setOut h m p (pageAt h.Memory (slotOf h m p).Page)) m p noSlot
/-- room for a page -/
def roomFor (h : VHost) : VHost := match freeIn h with
  | [] => (match ownerOfPage h 0 with | some (m, p) => sendOut h m p | none => h)
  | _ => h
def takeIn (h : VHost) (m p : Nat) : VHost :=
  let to := (freeIn h).headD 0
  slotSet (setOut { h with Memory := withPage h.Memory to ((mon h m).Out[p]?.getD []) } m p []) m p ⟨to, 3⟩
def fetchIn (h : VHost) (m p : Nat) : VHost := takeIn (roomFor h) m p
def hasPage (h : VHost) (m page : Int) : Bool := hostOk h && decide (0 ≤ m ∧ m < h.Mons.length) && inR page 0 7
def guardP (h : VHost) (m p : Nat) : VHost := if (slotOf h m p).Page = -1 then setDirty h m p false else slotSet (setDirty h m p false) m p ⟨(slotOf h m p).Page, 1⟩
def guard (h : VHost) (m page : Int) : Option VHost := if hasPage h m page then some (guardP h m.toNat page.toNat) else none
/-- A page is written to: it is dirty, and may be written. -/
def soil (h : VHost) (m p : Nat) : VHost := if iand (slotOf h m p).Rights 2 = 0 then slotSet (setDirty h m p true) m p ⟨(slotOf h m p).Page, 3⟩ else setDirty h m p true
def mendP (h : VHost) (m p : Nat) (need : Int) : VHost :=
  let h1 := if (slotOf h m p).Page = -1 then fetchIn h m p else h
  if iand need 2 = 0 then h1 else soil h1 m p
/- looking up -/
def setTable (h : VHost) (m g : Nat) (k : VKept) : VHost := setMon h m { mon h m with Tables := (mon h m).Tables.set g k }
def kept (h : VHost) (m g : Nat) : VKept := (mon h m).Tables[g]?.getD noKept
def guestOf (h : VHost) (m g : Nat) : VGuest := (mon h m).Guests[g]?.getD noGuest
/-- does a slot let in? -/
def lets (s : Option VSlot) (need : Int) : Bool := match s with | some s => decide (s.Page ≠ -1) && enough s.Rights need | none => false
/-- the table's slot, filled where it must be -/
def filled (h : VHost) (m g : Nat) (page : Int) (q : Nat) (need : Int) : VHost :=
  if lets (ask (kept h m g) page) need then h else
  let h1 := mendP h m q need
  setTable h1 m g (fillK (kept h1 m g) (guestOf h1 m g).Live (mon h1 m).Outer page)
/- running -/
def hasMon (h : VHost) (m : Int) : Bool := hostOk h && decide (0 ≤ m ∧ m < h.Mons.length)
/- what a monitor asks -/
/- acts -/
/-- what an action yields: the host behind it, and what is told -/
def yields {α : Type} (x : α) (q : Option α) : α × VTold := (q.getD x, ⟨q.isSome, 0⟩)
/- lives -/
/- moving -/
def moves (h : VHost) (v : VMove) : Bool := hasMon h v.M && decide (v.Have.length = 8)
def fillLeft (h : VHost) (v : VMove) : List Int → List (List Int) → List (List Int)
  | [], o => o
  | p :: l, o => fillLeft h v l (put o p (pageOf h v.M p))
def moveImage (h : VHost) (v : VMove) : Option VMon := if moves h v then (at? h.Mons v.M).map fun x => { x with Out := fillLeft h v (moveLeft h v) v.Have, Outer := tableNew 8, Dirty := List.replicate 8 false, Tables := x.Tables.map fun _ => keptNew } else none
/- away -/
end Go.Proofs.YteelmdpahpggkaaGreat.T

