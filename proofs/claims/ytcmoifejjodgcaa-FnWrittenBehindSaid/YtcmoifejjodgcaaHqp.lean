
import Derived.Test.YtcmoifejjodgcaaRnp
import Derived.Test.YtcmoifejjodgcaaProg
namespace Go.Proofs.Ytcmoifejjodgcaa.T
open Go
set_option linter.unusedVariables false
set_option linter.unusedSimpArgs false
set_option maxRecDepth 100000
set_option maxHeartbeats 1000000
theorem at_of {α : Type} {xs : List α} {k : Nat} (h : k < xs.length) : ∃ x, xs[k]? = some x := ⟨xs[k], List.getElem?_eq_getElem h⟩
abbrev dInt (x : Int) : D := .v (.int .i64 x)
abbrev dIntS (xs : List Int) : D := .sl 1 (xs.map dInt)
def SmIntS (xs : List Int) : Prop := xs.length ≤ 1048576
def SmIntSS (xs : List (List Int)) : Prop := xs.length ≤ 1048576 ∧ ∀ x ∈ xs, SmIntS x
structure VSlot where
 Page : Int
 Rights : Int
 deriving DecidableEq
abbrev rSlot (x : VSlot) : List D := [.v (.int .i64 x.Page), .v (.int .i64 x.Rights)]
abbrev dSlot (x : VSlot) : D := .st (rSlot x)
def SmSlotS (xs : List VSlot) : Prop := xs.length ≤ 1048576
abbrev dBool (x : Bool) : D := .v (.bool x)
def SmBoolS (xs : List Bool) : Prop := xs.length ≤ 1048576
structure VIns where
 Op : Int
 X : Int
 deriving DecidableEq
abbrev rIns (x : VIns) : List D := [.v (.int .i64 x.Op), .v (.int .i64 x.X)]
abbrev dIns (x : VIns) : D := .st (rIns x)
abbrev dInsS (xs : List VIns) : D := .sl 2 (xs.map dIns)
def SmInsS (xs : List VIns) : Prop := xs.length ≤ 1048576
structure VCtl where
 Traps : Int
 Post : Int
 Open : Bool
 deriving DecidableEq
abbrev rCtl (x : VCtl) : List D := [.v (.int .i64 x.Traps), .v (.int .i64 x.Post), .v (.bool x.Open)]
structure VExit where
 Kind : Int
 Page : Int
 Write : Bool
 N : Int
 deriving DecidableEq
abbrev rExit (x : VExit) : List D := [.v (.int .i64 x.Kind), .v (.int .i64 x.Page), .v (.bool x.Write), .v (.int .i64 x.N)]
structure VGuest where
 Prog : List VIns
 A : Int
 Pc : Int
 Written : List VSlot
 Live : List VSlot
 Ctl : VCtl
 Pending : Int
 Exit : VExit
 Halted : Bool
 Seen : List Int
 deriving DecidableEq
abbrev rGuest (x : VGuest) : List D := [.sl 2 (x.Prog.map dIns), .v (.int .i64 x.A), .v (.int .i64 x.Pc), .sl 2 (x.Written.map dSlot), .sl 2 (x.Live.map dSlot), .v (.int .i64 x.Ctl.Traps), .v (.int .i64 x.Ctl.Post), .v (.bool x.Ctl.Open), .v (.int .i64 x.Pending), .v (.int .i64 x.Exit.Kind), .v (.int .i64 x.Exit.Page), .v (.bool x.Exit.Write), .v (.int .i64 x.Exit.N), .v (.bool x.Halted), .sl 1 (x.Seen.map dInt)]
abbrev dGuest (x : VGuest) : D := .st (rGuest x)
def SmGuest (x : VGuest) : Prop := SmInsS x.Prog ∧ SmSlotS x.Written ∧ SmSlotS x.Live ∧ SmIntS x.Seen
def SmGuestS (xs : List VGuest) : Prop := xs.length ≤ 1048576 ∧ ∀ x ∈ xs, SmGuest x
structure VKept where
 Known : List Bool
 Slots : List VSlot
 deriving DecidableEq
abbrev rKept (x : VKept) : List D := [.sl 1 (x.Known.map dBool), .sl 2 (x.Slots.map dSlot)]
abbrev dKept (x : VKept) : D := .st (rKept x)
def SmKept (x : VKept) : Prop := SmBoolS x.Known ∧ SmSlotS x.Slots
def SmKeptS (xs : List VKept) : Prop := xs.length ≤ 1048576 ∧ ∀ x ∈ xs, SmKept x
structure VMon where
 Outer : List VSlot
 Out : List (List Int)
 Dirty : List Bool
 Guests : List VGuest
 Outs : List Int
 Pending : Int
 Traps : Int
 Tables : List VKept
 Own : Int
 deriving DecidableEq
abbrev rMon (x : VMon) : List D := [.sl 2 (x.Outer.map dSlot), .sl 1 (x.Out.map dIntS), .sl 1 (x.Dirty.map dBool), .sl 15 (x.Guests.map dGuest), .sl 1 (x.Outs.map dInt), .v (.int .i64 x.Pending), .v (.int .i64 x.Traps), .sl 2 (x.Tables.map dKept), .v (.int .i64 x.Own)]
abbrev dMon (x : VMon) : D := .st (rMon x)
def SmMon (x : VMon) : Prop := SmSlotS x.Outer ∧ SmIntSS x.Out ∧ SmBoolS x.Dirty ∧ SmGuestS x.Guests ∧ SmIntS x.Outs ∧ SmKeptS x.Tables
def SmMonS (xs : List VMon) : Prop := xs.length ≤ 1048576 ∧ ∀ x ∈ xs, SmMon x
structure VEntry where
 Tag : Int
 Page : Int
 Host : Int
 Rights : Int
 deriving DecidableEq
abbrev rEntry (x : VEntry) : List D := [.v (.int .i64 x.Tag), .v (.int .i64 x.Page), .v (.int .i64 x.Host), .v (.int .i64 x.Rights)]
abbrev dEntry (x : VEntry) : D := .st (rEntry x)
def SmEntryS (xs : List VEntry) : Prop := xs.length ≤ 1048576
structure VHost where
 Memory : List (List Int)
 Mons : List VMon
 Buffer : List VEntry
 IoBuffer : List VEntry
 deriving DecidableEq
abbrev rHost (x : VHost) : List D := [.sl 1 (x.Memory.map dIntS), .sl 9 (x.Mons.map dMon), .sl 4 (x.Buffer.map dEntry), .sl 4 (x.IoBuffer.map dEntry)]
def SmHost (x : VHost) : Prop := SmIntSS x.Memory ∧ SmMonS x.Mons ∧ SmEntryS x.Buffer ∧ SmEntryS x.IoBuffer
structure VMove where
 M : Int
 Have : List (List Int)
 deriving DecidableEq
abbrev rMove (x : VMove) : List D := [.v (.int .i64 x.M), .sl 1 (x.Have.map dIntS)]
def SmMove (x : VMove) : Prop := SmIntSS x.Have
structure VBare where
 Memory : List (List Int)
 Guests : List VGuest
 Outs : List Int
 Pending : Int
 deriving DecidableEq
abbrev rBare (x : VBare) : List D := [.sl 1 (x.Memory.map dIntS), .sl 15 (x.Guests.map dGuest), .sl 1 (x.Outs.map dInt), .v (.int .i64 x.Pending)]
abbrev dBare (x : VBare) : D := .st (rBare x)
def SmBare (x : VBare) : Prop := SmIntSS x.Memory ∧ SmGuestS x.Guests ∧ SmIntS x.Outs
def SmBareS (xs : List VBare) : Prop := xs.length ≤ 1048576 ∧ ∀ x ∈ xs, SmBare x
structure VSaved where
 Mons : List VBare
 Traps : List Int
 Own : List Int
 deriving DecidableEq
def SmSaved (x : VSaved) : Prop := SmBareS x.Mons ∧ SmIntS x.Traps ∧ SmIntS x.Own
structure VTold where
 Ok : Bool
 N : Int
 deriving DecidableEq
def SmToldS (xs : List VTold) : Prop := xs.length ≤ 1048576
structure VAct where
 Kind : Int
 M : Int
 G : Int
 X : Int
 Y : Int
 Z : Int
 deriving DecidableEq
def SmActS (xs : List VAct) : Prop := xs.length ≤ 1048576
abbrev dInsSS (xs : List (List VIns)) : D := .sl 1 (xs.map dInsS)
def SmInsSS (xs : List (List VIns)) : Prop := xs.length ≤ 1048576 ∧ ∀ x ∈ xs, SmInsS x
def SmInsSSS (xs : List (List (List VIns))) : Prop := xs.length ≤ 1048576 ∧ ∀ x ∈ xs, SmInsSS x
end Go.Proofs.Ytcmoifejjodgcaa.T

namespace Go.Proofs.Ytcmoifejjodgcaa.T
open Go
set_option linter.unusedVariables false
set_option linter.unusedSimpArgs false
set_option maxRecDepth 100000
set_option maxHeartbeats 1000000
instance (xs : List Int) [h : Q (SmIntS xs)] : LenX xs 1048576 := ⟨h.h⟩
instance : ElB SmIntS (fun y => y.length ≤ 1048576) := ⟨fun _ h => h⟩
theorem SmIntS.of {xs : List Int} {n : Nat} [h : LenX xs n] (hn : n ≤ 1048576 := by decide) : Q (SmIntS xs) := ⟨Nat.le_trans h.h hn⟩
instance : Q (SmIntS []) := ⟨by simp [SmIntS]⟩
instance (xs : List Int) (k : Nat) [h : Q (SmIntS xs)] : Q (SmIntS (xs.take k)) := SmIntS.of
instance (xs : List Int) (k : Nat) [h : Q (SmIntS xs)] : Q (SmIntS (xs.drop k)) := SmIntS.of
instance (xs : List Int) (k : Nat) (y : Int) [h : Q (SmIntS xs)] : Q (SmIntS (xs.set k y)) := SmIntS.of
instance (xs : List Int) (p : Int → Bool) [h : Q (SmIntS xs)] : Q (SmIntS (xs.filter p)) := SmIntS.of
instance (xs : List (List Int)) [h : Q (SmIntSS xs)] : LenX xs 1048576 := ⟨h.h.1⟩
instance : ElB SmIntSS (fun y => y.length ≤ 1048576) := ⟨fun _ h => h.1⟩
instance (xs : List (List Int)) [h : Q (SmIntSS xs)] : ElS xs SmIntS := ⟨h.h.2⟩
instance : Q (SmIntSS []) := ⟨by simp, fun x hx => by cases hx⟩
instance (x : List Int) [h : Q (SmIntS x)] : Q (SmIntSS [x]) := ⟨by simp, fun y hy => by rw [List.mem_singleton.1 hy]; exact h.h⟩
instance (xs : List (List Int)) (k : Nat) (y : List Int) [h : Q (SmIntSS xs)] [h2 : Q (SmIntS y)] : Q (SmIntSS (xs.set k y)) := ⟨by rw [List.length_set]; exact h.h.1, fun z hz => by rcases List.mem_or_eq_of_mem_set hz with hz | rfl; exact h.h.2 z hz; exact h2.h⟩
theorem SmIntSS.el {xs : List (List Int)} {y : List Int} {k : Nat} (h : SmIntSS xs) (hy : xs[k]? = some y) : Q (SmIntS y) := ⟨h.2 y (List.mem_of_getElem? hy)⟩
instance (xs : List VSlot) [h : Q (SmSlotS xs)] : LenX xs 1048576 := ⟨h.h⟩
instance : ElB SmSlotS (fun y => y.length ≤ 1048576) := ⟨fun _ h => h⟩
theorem SmSlotS.of {xs : List VSlot} {n : Nat} [h : LenX xs n] (hn : n ≤ 1048576 := by decide) : Q (SmSlotS xs) := ⟨Nat.le_trans h.h hn⟩
instance : Q (SmSlotS []) := ⟨by simp [SmSlotS]⟩
instance (xs : List VSlot) (k : Nat) [h : Q (SmSlotS xs)] : Q (SmSlotS (xs.take k)) := SmSlotS.of
instance (xs : List VSlot) (k : Nat) [h : Q (SmSlotS xs)] : Q (SmSlotS (xs.drop k)) := SmSlotS.of
instance (xs : List VSlot) (k : Nat) (y : VSlot) [h : Q (SmSlotS xs)] : Q (SmSlotS (xs.set k y)) := SmSlotS.of
instance (xs : List VSlot) (p : VSlot → Bool) [h : Q (SmSlotS xs)] : Q (SmSlotS (xs.filter p)) := SmSlotS.of
instance (xs : List Bool) [h : Q (SmBoolS xs)] : LenX xs 1048576 := ⟨h.h⟩
instance : ElB SmBoolS (fun y => y.length ≤ 1048576) := ⟨fun _ h => h⟩
theorem SmBoolS.of {xs : List Bool} {n : Nat} [h : LenX xs n] (hn : n ≤ 1048576 := by decide) : Q (SmBoolS xs) := ⟨Nat.le_trans h.h hn⟩
instance : Q (SmBoolS []) := ⟨by simp [SmBoolS]⟩
instance (xs : List Bool) (k : Nat) [h : Q (SmBoolS xs)] : Q (SmBoolS (xs.take k)) := SmBoolS.of
instance (xs : List Bool) (k : Nat) [h : Q (SmBoolS xs)] : Q (SmBoolS (xs.drop k)) := SmBoolS.of
instance (xs : List Bool) (k : Nat) (y : Bool) [h : Q (SmBoolS xs)] : Q (SmBoolS (xs.set k y)) := SmBoolS.of
instance (xs : List Bool) (p : Bool → Bool) [h : Q (SmBoolS xs)] : Q (SmBoolS (xs.filter p)) := SmBoolS.of
instance (xs : List VIns) [h : Q (SmInsS xs)] : LenX xs 1048576 := ⟨h.h⟩
instance : ElB SmInsS (fun y => y.length ≤ 1048576) := ⟨fun _ h => h⟩
theorem SmInsS.of {xs : List VIns} {n : Nat} [h : LenX xs n] (hn : n ≤ 1048576 := by decide) : Q (SmInsS xs) := ⟨Nat.le_trans h.h hn⟩
instance : Q (SmInsS []) := ⟨by simp [SmInsS]⟩
instance (xs : List VIns) (k : Nat) [h : Q (SmInsS xs)] : Q (SmInsS (xs.take k)) := SmInsS.of
instance (xs : List VIns) (k : Nat) [h : Q (SmInsS xs)] : Q (SmInsS (xs.drop k)) := SmInsS.of
instance (xs : List VIns) (k : Nat) (y : VIns) [h : Q (SmInsS xs)] : Q (SmInsS (xs.set k y)) := SmInsS.of
instance (xs : List VIns) (p : VIns → Bool) [h : Q (SmInsS xs)] : Q (SmInsS (xs.filter p)) := SmInsS.of
instance (x : VGuest) [h : Q (SmGuest x)] : Q (SmInsS x.Prog) := ⟨h.h.1⟩
instance (x : VGuest) [h : Q (SmGuest x)] : Q (SmSlotS x.Written) := ⟨h.h.2.1⟩
instance (x : VGuest) [h : Q (SmGuest x)] : Q (SmSlotS x.Live) := ⟨h.h.2.2.1⟩
instance (x : VGuest) [h : Q (SmGuest x)] : Q (SmIntS x.Seen) := ⟨h.h.2.2.2⟩
theorem SmGuest.of {x : VGuest} [h0 : Q (SmInsS x.Prog)] [h1 : Q (SmSlotS x.Written)] [h2 : Q (SmSlotS x.Live)] [h3 : Q (SmIntS x.Seen)] : Q (SmGuest x) := ⟨h0.h, h1.h, h2.h, h3.h⟩
instance (Prog : List VIns) (A : Int) (Pc : Int) (Written : List VSlot) (Live : List VSlot) (Ctl : VCtl) (Pending : Int) (Exit : VExit) (Halted : Bool) (Seen : List Int) [h0 : Q (SmInsS Prog)] [h1 : Q (SmSlotS Written)] [h2 : Q (SmSlotS Live)] [h3 : Q (SmIntS Seen)] : Q (SmGuest (VGuest.mk Prog A Pc Written Live Ctl Pending Exit Halted Seen)) := SmGuest.of (x := VGuest.mk Prog A Pc Written Live Ctl Pending Exit Halted Seen) (h0 := h0) (h1 := h1) (h2 := h2) (h3 := h3)
instance (xs : List VGuest) [h : Q (SmGuestS xs)] : LenX xs 1048576 := ⟨h.h.1⟩
instance : ElB SmGuestS (fun y => y.length ≤ 1048576) := ⟨fun _ h => h.1⟩
instance (xs : List VGuest) [h : Q (SmGuestS xs)] : ElS xs SmGuest := ⟨h.h.2⟩
instance : Q (SmGuestS []) := ⟨by simp, fun x hx => by cases hx⟩
instance (x : VGuest) [h : Q (SmGuest x)] : Q (SmGuestS [x]) := ⟨by simp, fun y hy => by rw [List.mem_singleton.1 hy]; exact h.h⟩
instance (xs : List VGuest) (k : Nat) (y : VGuest) [h : Q (SmGuestS xs)] [h2 : Q (SmGuest y)] : Q (SmGuestS (xs.set k y)) := ⟨by rw [List.length_set]; exact h.h.1, fun z hz => by rcases List.mem_or_eq_of_mem_set hz with hz | rfl; exact h.h.2 z hz; exact h2.h⟩
theorem SmGuestS.el {xs : List VGuest} {y : VGuest} {k : Nat} (h : SmGuestS xs) (hy : xs[k]? = some y) : Q (SmGuest y) := ⟨h.2 y (List.mem_of_getElem? hy)⟩
instance (x : VKept) [h : Q (SmKept x)] : Q (SmBoolS x.Known) := ⟨h.h.1⟩
instance (x : VKept) [h : Q (SmKept x)] : Q (SmSlotS x.Slots) := ⟨h.h.2⟩
theorem SmKept.of {x : VKept} [h0 : Q (SmBoolS x.Known)] [h1 : Q (SmSlotS x.Slots)] : Q (SmKept x) := ⟨h0.h, h1.h⟩
instance (Known : List Bool) (Slots : List VSlot) [h0 : Q (SmBoolS Known)] [h1 : Q (SmSlotS Slots)] : Q (SmKept (VKept.mk Known Slots)) := SmKept.of (x := VKept.mk Known Slots) (h0 := h0) (h1 := h1)
instance (xs : List VKept) [h : Q (SmKeptS xs)] : LenX xs 1048576 := ⟨h.h.1⟩
instance : ElB SmKeptS (fun y => y.length ≤ 1048576) := ⟨fun _ h => h.1⟩
instance (xs : List VKept) [h : Q (SmKeptS xs)] : ElS xs SmKept := ⟨h.h.2⟩
instance : Q (SmKeptS []) := ⟨by simp, fun x hx => by cases hx⟩
instance (x : VKept) [h : Q (SmKept x)] : Q (SmKeptS [x]) := ⟨by simp, fun y hy => by rw [List.mem_singleton.1 hy]; exact h.h⟩
instance (xs : List VKept) (k : Nat) (y : VKept) [h : Q (SmKeptS xs)] [h2 : Q (SmKept y)] : Q (SmKeptS (xs.set k y)) := ⟨by rw [List.length_set]; exact h.h.1, fun z hz => by rcases List.mem_or_eq_of_mem_set hz with hz | rfl; exact h.h.2 z hz; exact h2.h⟩
theorem SmKeptS.el {xs : List VKept} {y : VKept} {k : Nat} (h : SmKeptS xs) (hy : xs[k]? = some y) : Q (SmKept y) := ⟨h.2 y (List.mem_of_getElem? hy)⟩
instance (x : VMon) [h : Q (SmMon x)] : Q (SmSlotS x.Outer) := ⟨h.h.1⟩
instance (x : VMon) [h : Q (SmMon x)] : Q (SmIntSS x.Out) := ⟨h.h.2.1⟩
instance (x : VMon) [h : Q (SmMon x)] : Q (SmBoolS x.Dirty) := ⟨h.h.2.2.1⟩
instance (x : VMon) [h : Q (SmMon x)] : Q (SmGuestS x.Guests) := ⟨h.h.2.2.2.1⟩
instance (x : VMon) [h : Q (SmMon x)] : Q (SmIntS x.Outs) := ⟨h.h.2.2.2.2.1⟩
instance (x : VMon) [h : Q (SmMon x)] : Q (SmKeptS x.Tables) := ⟨h.h.2.2.2.2.2⟩
theorem SmMon.of {x : VMon} [h0 : Q (SmSlotS x.Outer)] [h1 : Q (SmIntSS x.Out)] [h2 : Q (SmBoolS x.Dirty)] [h3 : Q (SmGuestS x.Guests)] [h4 : Q (SmIntS x.Outs)] [h5 : Q (SmKeptS x.Tables)] : Q (SmMon x) := ⟨h0.h, h1.h, h2.h, h3.h, h4.h, h5.h⟩
instance (Outer : List VSlot) (Out : List (List Int)) (Dirty : List Bool) (Guests : List VGuest) (Outs : List Int) (Pending : Int) (Traps : Int) (Tables : List VKept) (Own : Int) [h0 : Q (SmSlotS Outer)] [h1 : Q (SmIntSS Out)] [h2 : Q (SmBoolS Dirty)] [h3 : Q (SmGuestS Guests)] [h4 : Q (SmIntS Outs)] [h5 : Q (SmKeptS Tables)] : Q (SmMon (VMon.mk Outer Out Dirty Guests Outs Pending Traps Tables Own)) := SmMon.of (x := VMon.mk Outer Out Dirty Guests Outs Pending Traps Tables Own) (h0 := h0) (h1 := h1) (h2 := h2) (h3 := h3) (h4 := h4) (h5 := h5)
instance (xs : List VMon) [h : Q (SmMonS xs)] : LenX xs 1048576 := ⟨h.h.1⟩
instance : ElB SmMonS (fun y => y.length ≤ 1048576) := ⟨fun _ h => h.1⟩
instance (xs : List VMon) [h : Q (SmMonS xs)] : ElS xs SmMon := ⟨h.h.2⟩
instance : Q (SmMonS []) := ⟨by simp, fun x hx => by cases hx⟩
instance (x : VMon) [h : Q (SmMon x)] : Q (SmMonS [x]) := ⟨by simp, fun y hy => by rw [List.mem_singleton.1 hy]; exact h.h⟩
instance (xs : List VMon) (k : Nat) (y : VMon) [h : Q (SmMonS xs)] [h2 : Q (SmMon y)] : Q (SmMonS (xs.set k y)) := ⟨by rw [List.length_set]; exact h.h.1, fun z hz => by rcases List.mem_or_eq_of_mem_set hz with hz | rfl; exact h.h.2 z hz; exact h2.h⟩
theorem SmMonS.el {xs : List VMon} {y : VMon} {k : Nat} (h : SmMonS xs) (hy : xs[k]? = some y) : Q (SmMon y) := ⟨h.2 y (List.mem_of_getElem? hy)⟩
instance (xs : List VEntry) [h : Q (SmEntryS xs)] : LenX xs 1048576 := ⟨h.h⟩
instance : ElB SmEntryS (fun y => y.length ≤ 1048576) := ⟨fun _ h => h⟩
theorem SmEntryS.of {xs : List VEntry} {n : Nat} [h : LenX xs n] (hn : n ≤ 1048576 := by decide) : Q (SmEntryS xs) := ⟨Nat.le_trans h.h hn⟩
instance : Q (SmEntryS []) := ⟨by simp [SmEntryS]⟩
instance (xs : List VEntry) (k : Nat) [h : Q (SmEntryS xs)] : Q (SmEntryS (xs.take k)) := SmEntryS.of
instance (xs : List VEntry) (k : Nat) [h : Q (SmEntryS xs)] : Q (SmEntryS (xs.drop k)) := SmEntryS.of
instance (xs : List VEntry) (k : Nat) (y : VEntry) [h : Q (SmEntryS xs)] : Q (SmEntryS (xs.set k y)) := SmEntryS.of
instance (xs : List VEntry) (p : VEntry → Bool) [h : Q (SmEntryS xs)] : Q (SmEntryS (xs.filter p)) := SmEntryS.of
instance (x : VHost) [h : Q (SmHost x)] : Q (SmIntSS x.Memory) := ⟨h.h.1⟩
instance (x : VHost) [h : Q (SmHost x)] : Q (SmMonS x.Mons) := ⟨h.h.2.1⟩
instance (x : VHost) [h : Q (SmHost x)] : Q (SmEntryS x.Buffer) := ⟨h.h.2.2.1⟩
instance (x : VHost) [h : Q (SmHost x)] : Q (SmEntryS x.IoBuffer) := ⟨h.h.2.2.2⟩
theorem SmHost.of {x : VHost} [h0 : Q (SmIntSS x.Memory)] [h1 : Q (SmMonS x.Mons)] [h2 : Q (SmEntryS x.Buffer)] [h3 : Q (SmEntryS x.IoBuffer)] : Q (SmHost x) := ⟨h0.h, h1.h, h2.h, h3.h⟩
instance (Memory : List (List Int)) (Mons : List VMon) (Buffer : List VEntry) (IoBuffer : List VEntry) [h0 : Q (SmIntSS Memory)] [h1 : Q (SmMonS Mons)] [h2 : Q (SmEntryS Buffer)] [h3 : Q (SmEntryS IoBuffer)] : Q (SmHost (VHost.mk Memory Mons Buffer IoBuffer)) := SmHost.of (x := VHost.mk Memory Mons Buffer IoBuffer) (h0 := h0) (h1 := h1) (h2 := h2) (h3 := h3)
instance (x : VMove) [h : Q (SmMove x)] : Q (SmIntSS x.Have) := ⟨h.h⟩
theorem SmMove.of {x : VMove} [h0 : Q (SmIntSS x.Have)] : Q (SmMove x) := ⟨h0.h⟩
instance (M : Int) (Have : List (List Int)) [h0 : Q (SmIntSS Have)] : Q (SmMove (VMove.mk M Have)) := SmMove.of (x := VMove.mk M Have) (h0 := h0)
instance (x : VBare) [h : Q (SmBare x)] : Q (SmIntSS x.Memory) := ⟨h.h.1⟩
instance (x : VBare) [h : Q (SmBare x)] : Q (SmGuestS x.Guests) := ⟨h.h.2.1⟩
instance (x : VBare) [h : Q (SmBare x)] : Q (SmIntS x.Outs) := ⟨h.h.2.2⟩
theorem SmBare.of {x : VBare} [h0 : Q (SmIntSS x.Memory)] [h1 : Q (SmGuestS x.Guests)] [h2 : Q (SmIntS x.Outs)] : Q (SmBare x) := ⟨h0.h, h1.h, h2.h⟩
instance (Memory : List (List Int)) (Guests : List VGuest) (Outs : List Int) (Pending : Int) [h0 : Q (SmIntSS Memory)] [h1 : Q (SmGuestS Guests)] [h2 : Q (SmIntS Outs)] : Q (SmBare (VBare.mk Memory Guests Outs Pending)) := SmBare.of (x := VBare.mk Memory Guests Outs Pending) (h0 := h0) (h1 := h1) (h2 := h2)
instance (xs : List VBare) [h : Q (SmBareS xs)] : LenX xs 1048576 := ⟨h.h.1⟩
instance : ElB SmBareS (fun y => y.length ≤ 1048576) := ⟨fun _ h => h.1⟩
instance (xs : List VBare) [h : Q (SmBareS xs)] : ElS xs SmBare := ⟨h.h.2⟩
instance : Q (SmBareS []) := ⟨by simp, fun x hx => by cases hx⟩
instance (x : VBare) [h : Q (SmBare x)] : Q (SmBareS [x]) := ⟨by simp, fun y hy => by rw [List.mem_singleton.1 hy]; exact h.h⟩
instance (xs : List VBare) (k : Nat) (y : VBare) [h : Q (SmBareS xs)] [h2 : Q (SmBare y)] : Q (SmBareS (xs.set k y)) := ⟨by rw [List.length_set]; exact h.h.1, fun z hz => by rcases List.mem_or_eq_of_mem_set hz with hz | rfl; exact h.h.2 z hz; exact h2.h⟩
theorem SmBareS.el {xs : List VBare} {y : VBare} {k : Nat} (h : SmBareS xs) (hy : xs[k]? = some y) : Q (SmBare y) := ⟨h.2 y (List.mem_of_getElem? hy)⟩
instance (x : VSaved) [h : Q (SmSaved x)] : Q (SmBareS x.Mons) := ⟨h.h.1⟩
instance (x : VSaved) [h : Q (SmSaved x)] : Q (SmIntS x.Traps) := ⟨h.h.2.1⟩
instance (x : VSaved) [h : Q (SmSaved x)] : Q (SmIntS x.Own) := ⟨h.h.2.2⟩
theorem SmSaved.of {x : VSaved} [h0 : Q (SmBareS x.Mons)] [h1 : Q (SmIntS x.Traps)] [h2 : Q (SmIntS x.Own)] : Q (SmSaved x) := ⟨h0.h, h1.h, h2.h⟩
instance (Mons : List VBare) (Traps : List Int) (Own : List Int) [h0 : Q (SmBareS Mons)] [h1 : Q (SmIntS Traps)] [h2 : Q (SmIntS Own)] : Q (SmSaved (VSaved.mk Mons Traps Own)) := SmSaved.of (x := VSaved.mk Mons Traps Own) (h0 := h0) (h1 := h1) (h2 := h2)
instance (xs : List VTold) [h : Q (SmToldS xs)] : LenX xs 1048576 := ⟨h.h⟩
instance : ElB SmToldS (fun y => y.length ≤ 1048576) := ⟨fun _ h => h⟩
theorem SmToldS.of {xs : List VTold} {n : Nat} [h : LenX xs n] (hn : n ≤ 1048576 := by decide) : Q (SmToldS xs) := ⟨Nat.le_trans h.h hn⟩
instance : Q (SmToldS []) := ⟨by simp [SmToldS]⟩
instance (xs : List VTold) (k : Nat) [h : Q (SmToldS xs)] : Q (SmToldS (xs.take k)) := SmToldS.of
instance (xs : List VTold) (k : Nat) [h : Q (SmToldS xs)] : Q (SmToldS (xs.drop k)) := SmToldS.of
instance (xs : List VTold) (k : Nat) (y : VTold) [h : Q (SmToldS xs)] : Q (SmToldS (xs.set k y)) := SmToldS.of
instance (xs : List VTold) (p : VTold → Bool) [h : Q (SmToldS xs)] : Q (SmToldS (xs.filter p)) := SmToldS.of
instance (xs : List VAct) [h : Q (SmActS xs)] : LenX xs 1048576 := ⟨h.h⟩
instance : ElB SmActS (fun y => y.length ≤ 1048576) := ⟨fun _ h => h⟩
theorem SmActS.of {xs : List VAct} {n : Nat} [h : LenX xs n] (hn : n ≤ 1048576 := by decide) : Q (SmActS xs) := ⟨Nat.le_trans h.h hn⟩
instance : Q (SmActS []) := ⟨by simp [SmActS]⟩
instance (xs : List VAct) (k : Nat) [h : Q (SmActS xs)] : Q (SmActS (xs.take k)) := SmActS.of
instance (xs : List VAct) (k : Nat) [h : Q (SmActS xs)] : Q (SmActS (xs.drop k)) := SmActS.of
instance (xs : List VAct) (k : Nat) (y : VAct) [h : Q (SmActS xs)] : Q (SmActS (xs.set k y)) := SmActS.of
instance (xs : List VAct) (p : VAct → Bool) [h : Q (SmActS xs)] : Q (SmActS (xs.filter p)) := SmActS.of
instance (xs : List (List VIns)) [h : Q (SmInsSS xs)] : LenX xs 1048576 := ⟨h.h.1⟩
instance : ElB SmInsSS (fun y => y.length ≤ 1048576) := ⟨fun _ h => h.1⟩
instance (xs : List (List VIns)) [h : Q (SmInsSS xs)] : ElS xs SmInsS := ⟨h.h.2⟩
instance : Q (SmInsSS []) := ⟨by simp, fun x hx => by cases hx⟩
instance (x : List VIns) [h : Q (SmInsS x)] : Q (SmInsSS [x]) := ⟨by simp, fun y hy => by rw [List.mem_singleton.1 hy]; exact h.h⟩
instance (xs : List (List VIns)) (k : Nat) (y : List VIns) [h : Q (SmInsSS xs)] [h2 : Q (SmInsS y)] : Q (SmInsSS (xs.set k y)) := ⟨by rw [List.length_set]; exact h.h.1, fun z hz => by rcases List.mem_or_eq_of_mem_set hz with hz | rfl; exact h.h.2 z hz; exact h2.h⟩
theorem SmInsSS.el {xs : List (List VIns)} {y : List VIns} {k : Nat} (h : SmInsSS xs) (hy : xs[k]? = some y) : Q (SmInsS y) := ⟨h.2 y (List.mem_of_getElem? hy)⟩
instance (xs : List (List (List VIns))) [h : Q (SmInsSSS xs)] : LenX xs 1048576 := ⟨h.h.1⟩
instance : ElB SmInsSSS (fun y => y.length ≤ 1048576) := ⟨fun _ h => h.1⟩
instance (xs : List (List (List VIns))) [h : Q (SmInsSSS xs)] : ElS xs SmInsSS := ⟨h.h.2⟩
instance : Q (SmInsSSS []) := ⟨by simp, fun x hx => by cases hx⟩
instance (x : List (List VIns)) [h : Q (SmInsSS x)] : Q (SmInsSSS [x]) := ⟨by simp, fun y hy => by rw [List.mem_singleton.1 hy]; exact h.h⟩
instance (xs : List (List (List VIns))) (k : Nat) (y : List (List VIns)) [h : Q (SmInsSSS xs)] [h2 : Q (SmInsSS y)] : Q (SmInsSSS (xs.set k y)) := ⟨by rw [List.length_set]; exact h.h.1, fun z hz => by rcases List.mem_or_eq_of_mem_set hz with hz | rfl; exact h.h.2 z hz; exact h2.h⟩
theorem SmInsSSS.el {xs : List (List (List VIns))} {y : List (List VIns)} {k : Nat} (h : SmInsSSS xs) (hy : xs[k]? = some y) : Q (SmInsSS y) := ⟨h.2 y (List.mem_of_getElem? hy)⟩
end Go.Proofs.Ytcmoifejjodgcaa.T

