
import Derived.Test.YteelmdpahpggkaaGreatHap
namespace Go.Proofs.YteelmdpahpggkaaGreat.T
open Go
set_option linter.unusedVariables false
set_option linter.unusedSimpArgs false
set_option maxRecDepth 100000
set_option maxHeartbeats 1000000
instance (xs : List Int) [h : Q (SmIntS xs)] : LenX xs 1048576 := ⟨h.h⟩
instance : ElB SmIntS (fun y => y.length ≤ 1048576) := ⟨fun _ h => h⟩
theorem SmIntS.of {xs : List Int} {n : Nat} [h : LenX xs n] (hn : n ≤ 1048576 := by decide) : Q (SmIntS xs) := ⟨Nat.le_trans h.h hn⟩
instance : Q (SmIntS []) := ⟨by simp [SmIntS]⟩
instance (xs : List Int) (k : Nat) [h : Q (SmIntS xs)] : Q (SmIntS (xs.take k)) := SmIntS.of
instance (xs : List Int) (k : Nat) [h : Q (SmIntS xs)] : Q (SmIntS (xs.drop k)) := SmIntS.of
instance (xs : List Int) (k : Nat) (y : Int) [h : Q (SmIntS xs)] : Q (SmIntS (xs.set k y)) := SmIntS.of
instance (xs : List Int) (p : Int → Bool) [h : Q (SmIntS xs)] : Q (SmIntS (xs.filter p)) := SmIntS.of
instance (xs : List (List Int)) [h : Q (SmIntSS xs)] : LenX xs 1048576 := ⟨h.h.1⟩
instance : ElB SmIntSS (fun y => y.length ≤ 1048576) := ⟨fun _ h => h.1⟩
instance (xs : List (List Int)) [h : Q (SmIntSS xs)] : ElS xs SmIntS := ⟨h.h.2⟩
instance : Q (SmIntSS []) := ⟨by simp, fun x hx => by cases hx⟩
instance (x : List Int) [h : Q (SmIntS x)] : Q (SmIntSS [x]) := ⟨by simp, fun y hy => by rw [List.mem_singleton.1 hy]; exact h.h⟩
instance (xs : List (List Int)) (k : Nat) (y : List Int) [h : Q (SmIntSS xs)] [h2 : Q (SmIntS y)] : Q (SmIntSS (xs.set k y)) := ⟨by rw [List.length_set]; exact h.h.1, fun z hz => by rcases List.mem_or_eq_of_mem_set hz with hz | rfl; exact h.h.2 z hz; exact h2.h⟩
theorem SmIntSS.el {xs : List (List Int)} {y : List Int} {k : Nat} (h : SmIntSS xs) (hy : xs[k]? = some y) : Q (SmIntS y) := ⟨h.2 y (List.mem_of_getElem? hy)⟩
instance (xs : List VSlot) [h : Q (SmSlotS xs)] : LenX xs 1048576 := ⟨h.h⟩
instance : ElB SmSlotS (fun y => y.length ≤ 1048576) := ⟨fun _ h => h⟩
theorem SmSlotS.of {xs : List VSlot} {n : Nat} [h : LenX xs n] (hn : n ≤ 1048576 := by decide) : Q (SmSlotS xs) := ⟨Nat.le_trans h.h hn⟩
instance : Q (SmSlotS []) := ⟨by simp [SmSlotS]⟩
instance (xs : List VSlot) (k : Nat) [h : Q (SmSlotS xs)] : Q (SmSlotS (xs.take k)) := SmSlotS.of
instance (xs : List VSlot) (k : Nat) [h : Q (SmSlotS xs)] : Q (SmSlotS (xs.drop k)) := SmSlotS.of
instance (xs : List VSlot) (k : Nat) (y : VSlot) [h : Q (SmSlotS xs)] : Q (SmSlotS (xs.set k y)) := SmSlotS.of
instance (xs : List VSlot) (p : VSlot → Bool) [h : Q (SmSlotS xs)] : Q (SmSlotS (xs.filter p)) := SmSlotS.of
instance (xs : List Bool) [h : Q (SmBoolS xs)] : LenX xs 1048576 := ⟨h.h⟩
instance : ElB SmBoolS (fun y => y.length ≤ 1048576) := ⟨fun _ h => h⟩
theorem SmBoolS.of {xs : List Bool} {n : Nat} [h : LenX xs n] (hn : n ≤ 1048576 := by decide) : Q (SmBoolS xs) := ⟨Nat.le_trans h.h hn⟩
instance : Q (SmBoolS []) := ⟨by simp [SmBoolS]⟩
instance (xs : List Bool) (k : Nat) [h : Q (SmBoolS xs)] : Q (SmBoolS (xs.take k)) := SmBoolS.of
instance (xs : List Bool) (k : Nat) [h : Q (SmBoolS xs)] : Q (SmBoolS (xs.drop k)) := SmBoolS.of
instance (xs : List Bool) (k : Nat) (y : Bool) [h : Q (SmBoolS xs)] : Q (SmBoolS (xs.set k y)) := SmBoolS.of
instance (xs : List Bool) (p : Bool → Bool) [h : Q (SmBoolS xs)] : Q (SmBoolS (xs.filter p)) := SmBoolS.of
instance (xs : List VIns) [h : Q (SmInsS xs)] : LenX xs 1048576 := ⟨h.h⟩
instance : ElB SmInsS (fun y => y.length ≤ 1048576) := ⟨fun _ h => h⟩
theorem SmInsS.of {xs : List VIns} {n : Nat} [h : LenX xs n] (hn : n ≤ 1048576 := by decide) : Q (SmInsS xs) := ⟨Nat.le_trans h.h hn⟩
instance : Q (SmInsS []) := ⟨by simp [SmInsS]⟩
instance (xs : List VIns) (k : Nat) [h : Q (SmInsS xs)] : Q (SmInsS (xs.take k)) := SmInsS.of
instance (xs : List VIns) (k : Nat) [h : Q (SmInsS xs)] : Q (SmInsS (xs.drop k)) := SmInsS.of
instance (xs : List VIns) (k : Nat) (y : VIns) [h : Q (SmInsS xs)] : Q (SmInsS (xs.set k y)) := SmInsS.of
instance (xs : List VIns) (p : VIns → Bool) [h : Q (SmInsS xs)] : Q (SmInsS (xs.filter p)) := SmInsS.of
instance (x : VGuest) [h : Q (SmGuest x)] : Q (SmInsS x.Prog) := ⟨h.h.1⟩
instance (x : VGuest) [h : Q (SmGuest x)] : Q (SmSlotS x.Written) := ⟨h.h.2.1⟩
instance (x : VGuest) [h : Q (SmGuest x)] : Q (SmSlotS x.Live) := ⟨h.h.2.2.1⟩
instance (x : VGuest) [h : Q (SmGuest x)] : Q (SmIntS x.Seen) := ⟨h.h.2.2.2⟩
theorem SmGuest.of {x : VGuest} [h0 : Q (SmInsS x.Prog)] [h1 : Q (SmSlotS x.Written)] [h2 : Q (SmSlotS x.Live)] [h3 : Q (SmIntS x.Seen)] : Q (SmGuest x) := ⟨h0.h, h1.h, h2.h, h3.h⟩
instance (Prog : List VIns) (A : Int) (Pc : Int) (Written : List VSlot) (Live : List VSlot) (Ctl : VCtl) (Pending : Int) (Exit : VExit) (Halted : Bool) (Seen : List Int) [h0 : Q (SmInsS Prog)] [h1 : Q (SmSlotS Written)] [h2 : Q (SmSlotS Live)] [h3 : Q (SmIntS Seen)] : Q (SmGuest (VGuest.mk Prog A Pc Written Live Ctl Pending Exit Halted Seen)) := SmGuest.of (x := VGuest.mk Prog A Pc Written Live Ctl Pending Exit Halted Seen) (h0 := h0) (h1 := h1) (h2 := h2) (h3 := h3)
instance (xs : List VGuest) [h : Q (SmGuestS xs)] : LenX xs 1048576 := ⟨h.h.1⟩
instance : ElB SmGuestS (fun y => y.length ≤ 1048576) := ⟨fun _ h => h.1⟩
instance (xs : List VGuest) [h : Q (SmGuestS xs)] : ElS xs SmGuest := ⟨h.h.2⟩
instance : Q (SmGuestS []) := ⟨by simp, fun x hx => by cases hx⟩
instance (x : VGuest) [h : Q (SmGuest x)] : Q (SmGuestS [x]) := ⟨by simp, fun y hy => by rw [List.mem_singleton.1 hy]; exact h.h⟩
instance (xs : List VGuest) (k : Nat) (y : VGuest) [h : Q (SmGuestS xs)] [h2 : Q (SmGuest y)] : Q (SmGuestS (xs.set k y)) := ⟨by rw [List.length_set]; exact h.h.1, fun z hz => by rcases List.mem_or_eq_of_mem_set hz with hz | rfl; exact h.h.2 z hz; exact h2.h⟩
theorem SmGuestS.el {xs : List VGuest} {y : VGuest} {k : Nat} (h : SmGuestS xs) (hy : xs[k]? = some y) : Q (SmGuest y) := ⟨h.2 y (List.mem_of_getElem? hy)⟩
instance (x : VKept) [h : Q (SmKept x)] : Q (SmBoolS x.Known) := ⟨h.h.1⟩
instance (x : VKept) [h : Q (SmKept x)] : Q (SmSlotS x.Slots) := ⟨h.h.2⟩
theorem SmKept.of {x : VKept} [h0 : Q (SmBoolS x.Known)] [h1 : Q (SmSlotS x.Slots)] : Q (SmKept x) := ⟨h0.h, h1.h⟩
instance (Known : List Bool) (Slots : List VSlot) [h0 : Q (SmBoolS Known)] [h1 : Q (SmSlotS Slots)] : Q (SmKept (VKept.mk Known Slots)) := SmKept.of (x := VKept.mk Known Slots) (h0 := h0) (h1 := h1)
instance (xs : List VKept) [h : Q (SmKeptS xs)] : LenX xs 1048576 := ⟨h.h.1⟩
instance : ElB SmKeptS (fun y => y.length ≤ 1048576) := ⟨fun _ h => h.1⟩
instance (xs : List VKept) [h : Q (SmKeptS xs)] : ElS xs SmKept := ⟨h.h.2⟩
instance : Q (SmKeptS []) := ⟨by simp, fun x hx => by cases hx⟩
instance (x : VKept) [h : Q (SmKept x)] : Q (SmKeptS [x]) := ⟨by simp, fun y hy => by rw [List.mem_singleton.1 hy]; exact h.h⟩
instance (xs : List VKept) (k : Nat) (y : VKept) [h : Q (SmKeptS xs)] [h2 : Q (SmKept y)] : Q (SmKeptS (xs.set k y)) := ⟨by rw [List.length_set]; exact h.h.1, fun z hz => by rcases List.mem_or_eq_of_mem_set hz with hz | rfl; exact h.h.2 z hz; exact h2.h⟩
theorem SmKeptS.el {xs : List VKept} {y : VKept} {k : Nat} (h : SmKeptS xs) (hy : xs[k]? = some y) : Q (SmKept y) := ⟨h.2 y (List.mem_of_getElem? hy)⟩
instance (x : VMon) [h : Q (SmMon x)] : Q (SmSlotS x.Outer) := ⟨h.h.1⟩
instance (x : VMon) [h : Q (SmMon x)] : Q (SmIntSS x.Out) := ⟨h.h.2.1⟩
instance (x : VMon) [h : Q (SmMon x)] : Q (SmBoolS x.Dirty) := ⟨h.h.2.2.1⟩
instance (x : VMon) [h : Q (SmMon x)] : Q (SmGuestS x.Guests) := ⟨h.h.2.2.2.1⟩
instance (x : VMon) [h : Q (SmMon x)] : Q (SmIntS x.Outs) := ⟨h.h.2.2.2.2.1⟩
instance (x : VMon) [h : Q (SmMon x)] : Q (SmKeptS x.Tables) := ⟨h.h.2.2.2.2.2⟩
theorem SmMon.of {x : VMon} [h0 : Q (SmSlotS x.Outer)] [h1 : Q (SmIntSS x.Out)] [h2 : Q (SmBoolS x.Dirty)] [h3 : Q (SmGuestS x.Guests)] [h4 : Q (SmIntS x.Outs)] [h5 : Q (SmKeptS x.Tables)] : Q (SmMon x) := ⟨h0.h, h1.h, h2.h, h3.h, h4.h, h5.h⟩
instance (Outer : List VSlot) (Out : List (List Int)) (Dirty : List Bool) (Guests : List VGuest) (Outs : List Int) (Pending : Int) (Traps : Int) (Tables : List VKept) (Own : Int) [h0 : Q (SmSlotS Outer)] [h1 : Q (SmIntSS Out)] [h2 : Q (SmBoolS Dirty)] [h3 : Q (SmGuestS Guests)] [h4 : Q (SmIntS Outs)] [h5 : Q (SmKeptS Tables)] : Q (SmMon (VMon.mk Outer Out Dirty Guests Outs Pending Traps Tables Own)) := SmMon.of (x := VMon.mk Outer Out Dirty Guests Outs Pending Traps Tables Own) (h0 := h0) (h1 := h1) (h2 := h2) (h3 := h3) (h4 := h4) (h5 := h5)
instance (xs : List VMon) [h : Q (SmMonS xs)] : LenX xs 1048576 := ⟨h.h.1⟩
instance : ElB SmMonS (fun y => y.length ≤ 1048576) := ⟨fun _ h => h.1⟩
instance (xs : List VMon) [h : Q (SmMonS xs)] : ElS xs SmMon := ⟨h.h.2⟩
instance : Q (SmMonS []) := ⟨by simp, fun x hx => by cases hx⟩
instance (x : VMon) [h : Q (SmMon x)] : Q (SmMonS [x]) := ⟨by simp, fun y hy => by rw [List.mem_singleton.1 hy]; exact h.h⟩
instance (xs : List VMon) (k : Nat) (y : VMon) [h : Q (SmMonS xs)] [h2 : Q (SmMon y)] : Q (SmMonS (xs.set k y)) := ⟨by rw [List.length_set]; exact h.h.1, fun z hz => by rcases List.mem_or_eq_of_mem_set hz with hz | rfl; exact h.h.2 z hz; exact h2.h⟩
theorem SmMonS.el {xs : List VMon} {y : VMon} {k : Nat} (h : SmMonS xs) (hy : xs[k]? = some y) : Q (SmMon y) := ⟨h.2 y (List.mem_of_getElem? hy)⟩
instance (xs : List VEntry) [h : Q (SmEntryS xs)] : LenX xs 1048576 := ⟨h.h⟩
instance : ElB SmEntryS (fun y => y.length ≤ 1048576) := ⟨fun _ h => h⟩
theorem SmEntryS.of {xs : List VEntry} {n : Nat} [h : LenX xs n] (hn : n ≤ 1048576 := by decide) : Q (SmEntryS xs) := ⟨Nat.le_trans h.h hn⟩
instance : Q (SmEntryS []) := ⟨by simp [SmEntryS]⟩
instance (xs : List VEntry) (k : Nat) [h : Q (SmEntryS xs)] : Q (SmEntryS (xs.take k)) := SmEntryS.of
instance (xs : List VEntry) (k : Nat) [h : Q (SmEntryS xs)] : Q (SmEntryS (xs.drop k)) := SmEntryS.of
instance (xs : List VEntry) (k : Nat) (y : VEntry) [h : Q (SmEntryS xs)] : Q (SmEntryS (xs.set k y)) := SmEntryS.of
instance (xs : List VEntry) (p : VEntry → Bool) [h : Q (SmEntryS xs)] : Q (SmEntryS (xs.filter p)) := SmEntryS.of
instance (x : VHost) [h : Q (SmHost x)] : Q (SmIntSS x.Memory) := ⟨h.h.1⟩
instance (x : VHost) [h : Q (SmHost x)] : Q (SmMonS x.Mons) := ⟨h.h.2.1⟩
instance (x : VHost) [h : Q (SmHost x)] : Q (SmEntryS x.Buffer) := ⟨h.h.2.2.1⟩
instance (x : VHost) [h : Q (SmHost x)] : Q (SmEntryS x.IoBuffer) := ⟨h.h.2.2.2⟩
theorem SmHost.of {x : VHost} [h0 : Q (SmIntSS x.Memory)] [h1 : Q (SmMonS x.Mons)] [h2 : Q (SmEntryS x.Buffer)] [h3 : Q (SmEntryS x.IoBuffer)] : Q (SmHost x) := ⟨h0.h, h1.h, h2.h, h3.h⟩
instance (Memory : List (List Int)) (Mons : List VMon) (Buffer : List VEntry) (IoBuffer : List VEntry) [h0 : Q (SmIntSS Memory)] [h1 : Q (SmMonS Mons)] [h2 : Q (SmEntryS Buffer)] [h3 : Q (SmEntryS IoBuffer)] : Q (SmHost (VHost.mk Memory Mons Buffer IoBuffer)) := SmHost.of (x := VHost.mk Memory Mons Buffer IoBuffer) (h0 := h0) (h1 := h1) (h2 := h2) (h3 := h3)
instance (x : VMove) [h : Q (SmMove x)] : Q (SmIntSS x.Have) := ⟨h.h⟩
theorem SmMove.of {x : VMove} [h0 : Q (SmIntSS x.Have)] : Q (SmMove x) := ⟨h0.h⟩
instance (M : Int) (Have : List (List Int)) [h0 : Q (SmIntSS Have)] : Q (SmMove (VMove.mk M Have)) := SmMove.of (x := VMove.mk M Have) (h0 := h0)
instance (x : VBare) [h : Q (SmBare x)] : Q (SmIntSS x.Memory) := ⟨h.h.1⟩
instance (x : VBare) [h : Q (SmBare x)] : Q (SmGuestS x.Guests) := ⟨h.h.2.1⟩
instance (x : VBare) [h : Q (SmBare x)] : Q (SmIntS x.Outs) := ⟨h.h.2.2⟩
theorem SmBare.of {x : VBare} [h0 : Q (SmIntSS x.Memory)] [h1 : Q (SmGuestS x.Guests)] [h2 : Q (SmIntS x.Outs)] : Q (SmBare x) := ⟨h0.h, h1.h, h2.h⟩
instance (Memory : List (List Int)) (Guests : List VGuest) (Outs : List Int) (Pending : Int) [h0 : Q (SmIntSS Memory)] [h1 : Q (SmGuestS Guests)] [h2 : Q (SmIntS Outs)] : Q (SmBare (VBare.mk Memory Guests Outs Pending)) := SmBare.of (x := VBare.mk Memory Guests Outs Pending) (h0 := h0) (h1 := h1) (h2 := h2)
instance (xs : List VBare) [h : Q (SmBareS xs)] : LenX xs 1048576 := ⟨h.h.1⟩
instance : ElB SmBareS (fun y => y.length ≤ 1048576) := ⟨fun _ h => h.1⟩
instance (xs : List VBare) [h : Q (SmBareS xs)] : ElS xs SmBare := ⟨h.h.2⟩
instance : Q (SmBareS []) := ⟨by simp, fun x hx => by cases hx⟩
instance (x : VBare) [h : Q (SmBare x)] : Q (SmBareS [x]) := ⟨by simp, fun y hy => by rw [List.mem_singleton.1 hy]; exact h.h⟩
instance (xs : List VBare) (k : Nat) (y : VBare) [h : Q (SmBareS xs)] [h2 : Q (SmBare y)] : Q (SmBareS (xs.set k y)) := ⟨by rw [List.length_set]; exact h.h.1, fun z hz => by rcases List.mem_or_eq_of_mem_set hz with hz | rfl; exact h.h.2 z hz; exact h2.h⟩
theorem SmBareS.el {xs : List VBare} {y : VBare} {k : Nat} (h : SmBareS xs) (hy : xs[k]? = some y) : Q (SmBare y) := ⟨h.2 y (List.mem_of_getElem? hy)⟩
instance (x : VSaved) [h : Q (SmSaved x)] : Q (SmBareS x.Mons) := ⟨h.h.1⟩
instance (x : VSaved) [h : Q (SmSaved x)] : Q (SmIntS x.Traps) := ⟨h.h.2.1⟩
instance (x : VSaved) [h : Q (SmSaved x)] : Q (SmIntS x.Own) := ⟨h.h.2.2⟩
theorem SmSaved.of {x : VSaved} [h0 : Q (SmBareS x.Mons)] [h1 : Q (SmIntS x.Traps)] [h2 : Q (SmIntS x.Own)] : Q (SmSaved x) := ⟨h0.h, h1.h, h2.h⟩
instance (Mons : List VBare) (Traps : List Int) (Own : List Int) [h0 : Q (SmBareS Mons)] [h1 : Q (SmIntS Traps)] [h2 : Q (SmIntS Own)] : Q (SmSaved (VSaved.mk Mons Traps Own)) := SmSaved.of (x := VSaved.mk Mons Traps Own) (h0 := h0) (h1 := h1) (h2 := h2)
instance (xs : List VTold) [h : Q (SmToldS xs)] : LenX xs 1048576 := ⟨h.h⟩
instance : ElB SmToldS (fun y => y.length ≤ 1048576) := ⟨fun _ h => h⟩
theorem SmToldS.of {xs : List VTold} {n : Nat} [h : LenX xs n] (hn : n ≤ 1048576 := by decide) : Q (SmToldS xs) := ⟨Nat.le_trans h.h hn⟩
instance : Q (SmToldS []) := ⟨by simp [SmToldS]⟩
instance (xs : List VTold) (k : Nat) [h : Q (SmToldS xs)] : Q (SmToldS (xs.take k)) := SmToldS.of
instance (xs : List VTold) (k : Nat) [h : Q (SmToldS xs)] : Q (SmToldS (xs.drop k)) := SmToldS.of
instance (xs : List VTold) (k : Nat) (y : VTold) [h : Q (SmToldS xs)] : Q (SmToldS (xs.set k y)) := SmToldS.of
instance (xs : List VTold) (p : VTold → Bool) [h : Q (SmToldS xs)] : Q (SmToldS (xs.filter p)) := SmToldS.of
instance (xs : List VAct) [h : Q (SmActS xs)] : LenX xs 1048576 := ⟨h.h⟩
instance : ElB SmActS (fun y => y.length ≤ 1048576) := ⟨fun _ h => h⟩
theorem SmActS.of {xs : List VAct} {n : Nat} [h : LenX xs n] (hn : n ≤ 1048576 := by decide) : Q (SmActS xs) := ⟨Nat.le_trans h.h hn⟩
instance : Q (SmActS []) := ⟨by simp [SmActS]⟩
instance (xs : List VAct) (k : Nat) [h : Q (SmActS xs)] : Q (SmActS (xs.take k)) := SmActS.of
instance (xs : List VAct) (k : Nat) [h : Q (SmActS xs)] : Q (SmActS (xs.drop k)) := SmActS.of
instance (xs : List VAct) (k : Nat) (y : VAct) [h : Q (SmActS xs)] : Q (SmActS (xs.set k y)) := SmActS.of
instance (xs : List VAct) (p : VAct → Bool) [h : Q (SmActS xs)] : Q (SmActS (xs.filter p)) := SmActS.of
instance (xs : List (List VIns)) [h : Q (SmInsSS xs)] : LenX xs 1048576 := ⟨h.h.1⟩
instance : ElB SmInsSS (fun y => y.length ≤ 1048576) := ⟨fun _ h => h.1⟩
instance (xs : List (List VIns)) [h : Q (SmInsSS xs)] : ElS xs SmInsS := ⟨h.h.2⟩
instance : Q (SmInsSS []) := ⟨by simp, fun x hx => by cases hx⟩
instance (x : List VIns) [h : Q (SmInsS x)] : Q (SmInsSS [x]) := ⟨by simp, fun y hy => by rw [List.mem_singleton.1 hy]; exact h.h⟩
instance (xs : List (List VIns)) (k : Nat) (y : List VIns) [h : Q (SmInsSS xs)] [h2 : Q (SmInsS y)] : Q (SmInsSS (xs.set k y)) := ⟨by rw [List.length_set]; exact h.h.1, fun z hz => by rcases List.mem_or_eq_of_mem_set hz with hz | rfl; exact h.h.2 z hz; exact h2.h⟩
theorem SmInsSS.el {xs : List (List VIns)} {y : List VIns} {k : Nat} (h : SmInsSS xs) (hy : xs[k]? = some y) : Q (SmInsS y) := ⟨h.2 y (List.mem_of_getElem? hy)⟩
instance (xs : List (List (List VIns))) [h : Q (SmInsSSS xs)] : LenX xs 1048576 := ⟨h.h.1⟩
instance : ElB SmInsSSS (fun y => y.length ≤ 1048576) := ⟨fun _ h => h.1⟩
instance (xs : List (List (List VIns))) [h : Q (SmInsSSS xs)] : ElS xs SmInsSS := ⟨h.h.2⟩
instance : Q (SmInsSSS []) := ⟨by simp, fun x hx => by cases hx⟩
instance (x : List (List VIns)) [h : Q (SmInsSS x)] : Q (SmInsSSS [x]) := ⟨by simp, fun y hy => by rw [List.mem_singleton.1 hy]; exact h.h⟩
instance (xs : List (List (List VIns))) (k : Nat) (y : List (List VIns)) [h : Q (SmInsSSS xs)] [h2 : Q (SmInsSS y)] : Q (SmInsSSS (xs.set k y)) := ⟨by rw [List.length_set]; exact h.h.1, fun z hz => by rcases List.mem_or_eq_of_mem_set hz with hz | rfl; exact h.h.2 z hz; exact h2.h⟩
theorem SmInsSSS.el {xs : List (List (List VIns))} {y : List (List VIns)} {k : Nat} (h : SmInsSSS xs) (hy : xs[k]? = some y) : Q (SmInsSS y) := ⟨h.2 y (List.mem_of_getElem? hy)⟩
end Go.Proofs.YteelmdpahpggkaaGreat.T

namespace Go.Proofs.YteelmdpahpggkaaGreat.T
open Go
set_option linter.unusedVariables false
set_option linter.unusedSimpArgs false
abbrev inR (n a b : Int) : Bool := decide (a ≤ n ∧ n ≤ b)
def enough (r n : Int) : Bool := inR r 0 3 && inR n 0 3 && decide (iand r n = n)
def insOk (i : VIns) : Bool :=
 if i.Op = 1 ∨ i.Op = 2 ∨ i.Op = 5 ∨ i.Op = 6 then inR i.X 0 99 else if i.Op = 3 ∨ i.Op = 4 then inR i.X 0 15 else if i.Op = 7 then decide (i.X = 0) else if i.Op = 8 then inR i.X 0 11 else false
def progOk (p : List VIns) : Bool := p.all insOk && inR p.length 1 12
def slotOk (s : VSlot) (pages : Int) : Bool := decide (s = ⟨-1, 0⟩) || (decide (0 < pages) && inR s.Page 0 (pages - 1) && inR s.Rights 1 3)
def tableOk (t : List VSlot) (size pages : Int) : Bool := t.all (slotOk · pages) && decide ((t.length : Int) = size)
def ctlFaults (c : VCtl) : List Int :=
 (if inR c.Traps 0 3 then [] else [1]) ++ (if inR c.Post 0 255 then [] else [2]) ++ (if c.Post ≠ 0 ∧ c.Open = false then [3] else []) ++ (if c.Traps = 2 ∧ c.Post ≠ 0 then [4] else [])
def ctlOk (c : VCtl) : Bool := decide ((ctlFaults c).length = 0)
def exitOk (e : VExit) : Bool :=
 if e.Kind = 0 ∨ e.Kind = 4 then decide (e.Page = 0) && !e.Write && decide (e.N = 0) else if e.Kind = 1 then inR e.Page 0 3 && decide (e.N = 0)
 else if e.Kind = 2 ∨ e.Kind = 3 then inR e.N 0 99 && decide (e.Page = 0) && !e.Write else false
abbrev pendOk (p : Int) : Bool := inR p 0 255
def pageOk (c : List Int) : Bool := c.all (inR · 0 99) && decide (c.length = 4)
def memOk (m : List (List Int)) (pages : Int) : Bool := m.all pageOk && decide ((m.length : Int) = pages)
def guestOk (g : VGuest) : Bool :=
 progOk g.Prog && inR g.A 0 99 && inR g.Pc 0 12 && tableOk g.Written 4 8 && tableOk g.Live 4 8 && ctlOk g.Ctl && pendOk g.Pending && exitOk g.Exit && decide (g.Seen.length ≤ 40)
abbrev noSlot : VSlot := ⟨-1, 0⟩
abbrev noMon : VMon := ⟨[], [], [], [], [], 0, 0, [], 0⟩
def outAt (x : VMon) (i : Nat) : Bool := match x.Outer[i]?, x.Out[i]? with
 | some s, some p => if s = noSlot then pageOk p else decide (p.length = 0) && enough s.Rights 1
 | _, _ => false
def monPre (x : VMon) : Bool := inR x.Guests.length 1 2 && decide (x.Tables.length = x.Guests.length) && tableOk x.Outer 8 12 && decide (x.Out.length = 8) && decide (x.Dirty.length = 8)
def monEnd (x : VMon) : Bool := decide (x.Outs.length ≤ 40) && pendOk x.Pending && inR x.Traps 0 3 && inR x.Own 0 1000000000
def monOk (x : VMon) : Bool := monPre x && x.Guests.all guestOk && (List.range 8).all (outAt x) && monEnd x
def mapped (t : List VSlot) : Int := t.countP fun s => decide (s.Page ≠ -1)
def sameE (x y : VEntry) : Bool := decide (x.Tag = y.Tag ∧ x.Page = y.Page)
def noE : VEntry := ⟨0, 0, 0, 0⟩
def okRow (b : List VEntry) (i k : Nat) : Bool := (List.range k).all fun j => !sameE (b[i]?.getD noE) (b[j]?.getD noE)
def bufTo (b : List VEntry) (i : Nat) : Bool := (List.range i).all fun a => okRow b a a
def bufferOk (b : List VEntry) : Bool := bufTo b b.length && decide (b.length ≤ 6)
abbrev noKept : VKept := ⟨[], []⟩
abbrev noGuest : VGuest := ⟨[], 0, 0, [], [], ⟨0, 0, false⟩, 0, ⟨0, 0, false, 0⟩, false, []⟩
def at? {α : Type} (xs : List α) (i : Int) : Option α := if 0 ≤ i then xs[i.toNat]? else none
def put {α : Type} (xs : List α) (i : Int) (x : α) : List α := if 0 ≤ i then xs.set i.toNat x else xs
def brought (n a b : Int) : Int := if b < a ∨ n < a then a else if n > b then b else n
def bothRights (a b : Int) : Int := if inR a 0 3 && inR b 0 3 then iand a b else 0
def tableNew (n : Nat) : List VSlot := List.replicate n noSlot
def slotAt (t : List VSlot) (n : Int) : VSlot := (at? t n).getD noSlot
def usesB (t : List VSlot) (page : Int) (k : Nat) : Bool := decide ((t[k]?.getD noSlot).Page = page)
def usesOf (t : List VSlot) (page : Int) : List Int := rangeF (usesB t page) t.length
def cellAt (m : List (List Int)) (p c : Int) : Int := ((at? m p).bind fun r => at? r c).getD 0
def pageAt (m : List (List Int)) (n : Int) : List Int := (at? m n).getD [0, 0, 0, 0]
def withPage (m : List (List Int)) (p : Int) (cells : List Int) : List (List Int) := if pageOk cells then put m p cells else m
def composeSlot (inner : VSlot) (outer : List VSlot) : VSlot :=
 if inner.Page = -1 ∨ (slotAt outer inner.Page).Page = -1 ∨ bothRights inner.Rights (slotAt outer inner.Page).Rights = 0 then noSlot else ⟨(slotAt outer inner.Page).Page, bothRights inner.Rights (slotAt outer inner.Page).Rights⟩
def keptNew : VKept := ⟨List.replicate 4 false, List.replicate 4 noSlot⟩
def keptHas (k : VKept) (page : Int) : Bool := decide (0 ≤ page ∧ page < k.Known.length ∧ page < k.Slots.length)
def fillK (k : VKept) (inner outer : List VSlot) (page : Int) : VKept := match at? inner page with
 | none => k
 | some s => if keptHas k page then ⟨put k.Known page true, put k.Slots page (composeSlot s outer)⟩ else k
def ask (k : VKept) (page : Int) : Option VSlot := if keptHas k page && (at? k.Known page).getD false then at? k.Slots page else none
def forget (k : VKept) (page : Int) : VKept := if keptHas k page then ⟨put k.Known page false, put k.Slots page noSlot⟩ else k
def forgetUses (k : VKept) (inner : List VSlot) (page : Int) : VKept := (usesOf inner page).foldl forget k
def flushHost (b : List VEntry) (host : Int) : List VEntry := b.filter fun e => !decide (e.Host = host)
def insAt (p : List VIns) (pc : Int) : VIns := (at? p pc).getD ⟨7, 0⟩
def bit (p n : Int) : Bool := decide (iand (p.fdiv (2 ^ n.toNat)) 1 = 1)
abbrev noExit : VExit := ⟨0, 0, false, 0⟩
def topTo (p : Int) : Nat → Int
 | 0 => -1
 | n + 1 => if bit p n then n else topTo p n
def topIrq (p : Int) : Int := if pendOk p then topTo p 8 else -1
def guestNew (p : List VIns) : VGuest := { noGuest with Prog := p, Written := tableNew 4, Live := tableNew 4 }
def canRun (g : VGuest) : Bool := decide (g.Exit = noExit) && !g.Halted
def saw (g : VGuest) (n : Int) : VGuest := if g.Seen.length < 40 then { g with Seen := g.Seen ++ [n] } else g
def takesIrq (g : VGuest) : Bool := canRun g && g.Ctl.Open && decide (0 ≤ topIrq g.Pending)
def interrupted (g : VGuest) : VGuest := if takesIrq g then saw { g with Pending := g.Pending - 2 ^ (topIrq g.Pending).toNat } (100 + topIrq g.Pending) else g
def stopped (g : VGuest) (e : VExit) : VGuest := { g with Exit := e }
def wantOf (g : VGuest) : Int :=
 if canRun g = false then 0 else if takesIrq g then 1 else if (insAt g.Prog g.Pc).Op = 3 then 3 else if (insAt g.Prog g.Pc).Op = 4 then 4 else if (insAt g.Prog g.Pc).Op = 5 then 5
 else if (insAt g.Prog g.Pc).Op = 6 then 6 else if (insAt g.Prog g.Pc).Op = 7 then 7 else 2
def moved (g : VGuest) : VGuest := { g with Pc := if g.Pc ≥ 12 then 12 else g.Pc + 1 }
def plainly (g : VGuest) : VGuest :=
 if wantOf g ≠ 2 then g else
 let i := insAt g.Prog g.Pc
 if inR g.A 0 99 && inR i.X 0 99 then
  (if i.Op = 1 then moved { g with A := i.X } else if i.Op = 2 then moved { g with A := (g.A + i.X).tmod 100 } else if i.Op = 8 ∧ g.A = 0 then { g with Pc := i.X } else moved g)
 else moved g
def loaded (g : VGuest) (v : Int) : VGuest := moved (saw { g with A := v } v)
def held (g : VGuest) : VGuest := moved { g with Halted := true }
def address (g : VGuest) : Int := if wantOf g = 3 ∨ wantOf g = 4 then (insAt g.Prog g.Pc).X else -1
end Go.Proofs.YteelmdpahpggkaaGreat.T

