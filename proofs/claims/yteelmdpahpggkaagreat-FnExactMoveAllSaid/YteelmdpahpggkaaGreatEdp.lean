
import Derived.Test.YteelmdpahpggkaaGreatBasep
import Derived.Test.YteelmdpahpggkaaGreatT2p
import Derived.Carry
namespace Go.Proofs.YteelmdpahpggkaaGreat.ExactMoveAll
open Go.ChangeShapes Go.WideShapes Go.ChangeAt Go.RowKit Go.Proofs.YteelmdpahpggkaaGreat.Base Go.Proofs.YteelmdpahpggkaaGreat.T
set_option maxRecDepth 100000
def I64 (n : Int) : Prop := -9223372036854775808 ≤ n ∧ n ≤ 9223372036854775807
theorem i64_of {n : Int} (h : (Lit.int .i64 n).wf = true) : I64 n := by
 simp only [Lit.wf, Bool.and_eq_true, decide_eq_true_eq] at h
 have h1 : IntKind.i64.min = -9223372036854775808 := by decide
 have h2 : IntKind.i64.max = 9223372036854775807 := by decide
 rw [h1, h2] at h
 exact h
theorem isL_cons {t : Ty} {l : List Ty} {r : List D} (h : isL (t :: l) r) : ∃ a b, r = a ++ b ∧ t.is a ∧ isL l b := by rw [isL] at h; exact h
theorem isL_nil {r : List D} (h : isL [] r) : r = [] := by rw [isL] at h; exact h
theorem map_of2 {α : Type} {f : α → D} {q : α → Prop} {p : D → Prop} (h : ∀ d, p d → ∃ x, d = f x ∧ q x) : ∀ {ds : List D}, (∀ d ∈ ds, p d) → ∃ xs : List α, ds = xs.map f ∧ ∀ x ∈ xs, q x
 | [], _ => ⟨[], rfl, fun x hx => by cases hx⟩
 | d :: ds, hd => by
  obtain ⟨x, rfl, hx⟩ := h d (hd d List.mem_cons_self)
  obtain ⟨xs, rfl, hxs⟩ := map_of2 h (ds := ds) fun d' h' => hd d' (List.mem_cons_of_mem _ h')
  refine ⟨x :: xs, rfl, fun y hy => ?_⟩
  rcases List.mem_cons.1 hy with rfl | hy
  ·exact hx
  ·exact hxs y hy
abbrev tyInt : Ty := .int .i64
def WfInt (x : Int) : Prop := I64 x
theorem is_Int (r : List D) (h : tyInt.is r) : ∃ x, r = [dInt x] ∧ WfInt x := by
 simp only [Ty.is] at h
 obtain ⟨n, rfl, hw⟩ := h
 exact ⟨n, rfl, i64_of hw⟩
theorem el_Int (d : D) (h : tyInt.elem d) : ∃ x, d = dInt x ∧ WfInt x := by
 simp only [Ty.elem] at h
 obtain ⟨n, rfl, hw⟩ := h
 exact ⟨n, rfl, i64_of hw⟩
abbrev tyIntS : Ty := .list tyInt
def WfIntS (xs : List Int) : Prop := ∀ x ∈ xs, WfInt x
theorem is_IntS (r : List D) (h : tyIntS.is r) : ∃ x, r = [dIntS x] ∧ WfIntS x := by
 rw [Ty.is] at h
 obtain ⟨ds, rfl, h⟩ := h
 obtain ⟨xs, rfl, hx⟩ := map_of2 el_Int h
 exact ⟨xs, rfl, hx⟩
theorem el_IntS (d : D) (h : tyIntS.elem d) : ∃ x, d = dIntS x ∧ WfIntS x := by
 rw [Ty.elem] at h
 obtain ⟨ds, rfl, h⟩ := h
 obtain ⟨xs, rfl, hx⟩ := map_of2 el_Int h
 exact ⟨xs, rfl, hx⟩
abbrev tyIntSS : Ty := .list tyIntS
def WfIntSS (xs : List (List Int)) : Prop := ∀ x ∈ xs, WfIntS x
theorem is_IntSS (r : List D) (h : tyIntSS.is r) : ∃ x, r = [dIntSS x] ∧ WfIntSS x := by
 rw [Ty.is] at h
 obtain ⟨ds, rfl, h⟩ := h
 obtain ⟨xs, rfl, hx⟩ := map_of2 el_IntS h
 exact ⟨xs, rfl, hx⟩
abbrev tySlot : Ty := .st [tyInt, tyInt]
def WfSlot (x : VSlot) : Prop := WfInt x.Page ∧ WfInt x.Rights
theorem isL_Slot (r : List D) (h : isL [tyInt, tyInt] r) : ∃ x, r = rSlot x ∧ WfSlot x := by
 obtain ⟨a0, b0, e0, g0, h0⟩ := isL_cons h
 obtain ⟨x0, e00, w0⟩ := is_Int _ g0
 obtain ⟨a1, b1, e1, g1, h1⟩ := isL_cons h0
 obtain ⟨x1, e11, w1⟩ := is_Int _ g1
 have en := isL_nil h1
 exact ⟨⟨x0, x1⟩, by rw [e0, e00, e1, e11, en]; rfl, ⟨w0, w1⟩⟩
theorem el_Slot (d : D) (h : tySlot.elem d) : ∃ x, d = dSlot x ∧ WfSlot x := by
 rw [Ty.elem] at h
 obtain ⟨r, rfl, h⟩ := h
 obtain ⟨x, rfl, hx⟩ := isL_Slot r h
 exact ⟨x, rfl, hx⟩
abbrev tySlotS : Ty := .list tySlot
def WfSlotS (xs : List VSlot) : Prop := ∀ x ∈ xs, WfSlot x
theorem is_SlotS (r : List D) (h : tySlotS.is r) : ∃ x, r = [dSlotS x] ∧ WfSlotS x := by
 rw [Ty.is] at h
 obtain ⟨ds, rfl, h⟩ := h
 obtain ⟨xs, rfl, hx⟩ := map_of2 el_Slot h
 exact ⟨xs, rfl, hx⟩
abbrev tyBool : Ty := .bool
def WfBool (_ : Bool) : Prop := True
theorem is_Bool (r : List D) (h : tyBool.is r) : ∃ x, r = [dBool x] ∧ WfBool x := by
 simp only [Ty.is] at h
 obtain ⟨n, rfl⟩ := h
 exact ⟨n, rfl, trivial⟩
theorem el_Bool (d : D) (h : tyBool.elem d) : ∃ x, d = dBool x ∧ WfBool x := by
 simp only [Ty.elem] at h
 obtain ⟨n, rfl⟩ := h
 exact ⟨n, rfl, trivial⟩
abbrev tyBoolS : Ty := .list tyBool
def WfBoolS (xs : List Bool) : Prop := ∀ x ∈ xs, WfBool x
theorem is_BoolS (r : List D) (h : tyBoolS.is r) : ∃ x, r = [dBoolS x] ∧ WfBoolS x := by
 rw [Ty.is] at h
 obtain ⟨ds, rfl, h⟩ := h
 obtain ⟨xs, rfl, hx⟩ := map_of2 el_Bool h
 exact ⟨xs, rfl, hx⟩
abbrev tyIns : Ty := .st [tyInt, tyInt]
def WfIns (x : VIns) : Prop := WfInt x.Op ∧ WfInt x.X
theorem isL_Ins (r : List D) (h : isL [tyInt, tyInt] r) : ∃ x, r = rIns x ∧ WfIns x := by
 obtain ⟨a0, b0, e0, g0, h0⟩ := isL_cons h
 obtain ⟨x0, e00, w0⟩ := is_Int _ g0
 obtain ⟨a1, b1, e1, g1, h1⟩ := isL_cons h0
 obtain ⟨x1, e11, w1⟩ := is_Int _ g1
 have en := isL_nil h1
 exact ⟨⟨x0, x1⟩, by rw [e0, e00, e1, e11, en]; rfl, ⟨w0, w1⟩⟩
theorem el_Ins (d : D) (h : tyIns.elem d) : ∃ x, d = dIns x ∧ WfIns x := by
 rw [Ty.elem] at h
 obtain ⟨r, rfl, h⟩ := h
 obtain ⟨x, rfl, hx⟩ := isL_Ins r h
 exact ⟨x, rfl, hx⟩
abbrev tyInsS : Ty := .list tyIns
def WfInsS (xs : List VIns) : Prop := ∀ x ∈ xs, WfIns x
theorem is_InsS (r : List D) (h : tyInsS.is r) : ∃ x, r = [dInsS x] ∧ WfInsS x := by
 rw [Ty.is] at h
 obtain ⟨ds, rfl, h⟩ := h
 obtain ⟨xs, rfl, hx⟩ := map_of2 el_Ins h
 exact ⟨xs, rfl, hx⟩
abbrev tyCtl : Ty := .st [tyInt, tyInt, tyBool]
def WfCtl (x : VCtl) : Prop := WfInt x.Traps ∧ WfInt x.Post ∧ WfBool x.Open
theorem isL_Ctl (r : List D) (h : isL [tyInt, tyInt, tyBool] r) : ∃ x, r = rCtl x ∧ WfCtl x := by
 obtain ⟨a0, b0, e0, g0, h0⟩ := isL_cons h
 obtain ⟨x0, e00, w0⟩ := is_Int _ g0
 obtain ⟨a1, b1, e1, g1, h1⟩ := isL_cons h0
 obtain ⟨x1, e11, w1⟩ := is_Int _ g1
 obtain ⟨a2, b2, e2, g2, h2⟩ := isL_cons h1
 obtain ⟨x2, e22, w2⟩ := is_Bool _ g2
 have en := isL_nil h2
 exact ⟨⟨x0, x1, x2⟩, by rw [e0, e00, e1, e11, e2, e22, en]; rfl, ⟨w0, w1, w2⟩⟩
theorem is_Ctl (r : List D) (h : tyCtl.is r) : ∃ x, r = rCtl x ∧ WfCtl x := by
 rw [Ty.is] at h
 exact isL_Ctl r h
abbrev tyExit : Ty := .st [tyInt, tyInt, tyBool, tyInt]
def WfExit (x : VExit) : Prop := WfInt x.Kind ∧ WfInt x.Page ∧ WfBool x.Write ∧ WfInt x.N
theorem isL_Exit (r : List D) (h : isL [tyInt, tyInt, tyBool, tyInt] r) : ∃ x, r = rExit x ∧ WfExit x := by
 obtain ⟨a0, b0, e0, g0, h0⟩ := isL_cons h
 obtain ⟨x0, e00, w0⟩ := is_Int _ g0
 obtain ⟨a1, b1, e1, g1, h1⟩ := isL_cons h0
 obtain ⟨x1, e11, w1⟩ := is_Int _ g1
 obtain ⟨a2, b2, e2, g2, h2⟩ := isL_cons h1
 obtain ⟨x2, e22, w2⟩ := is_Bool _ g2
 obtain ⟨a3, b3, e3, g3, h3⟩ := isL_cons h2
 obtain ⟨x3, e33, w3⟩ := is_Int _ g3
 have en := isL_nil h3
 exact ⟨⟨x0, x1, x2, x3⟩, by rw [e0, e00, e1, e11, e2, e22, e3, e33, en]; rfl, ⟨w0, w1, w2, w3⟩⟩
theorem is_Exit (r : List D) (h : tyExit.is r) : ∃ x, r = rExit x ∧ WfExit x := by
 rw [Ty.is] at h
 exact isL_Exit r h
abbrev tyGuest : Ty := .st [tyInsS, tyInt, tyInt, tySlotS, tySlotS, tyCtl, tyInt, tyExit, tyBool, tyIntS]
def WfGuest (x : VGuest) : Prop := WfInsS x.Prog ∧ WfInt x.A ∧ WfInt x.Pc ∧ WfSlotS x.Written ∧ WfSlotS x.Live ∧ WfCtl x.Ctl ∧ WfInt x.Pending ∧ WfExit x.Exit ∧ WfBool x.Halted ∧ WfIntS x.Seen
theorem isL_Guest (r : List D) (h : isL [tyInsS, tyInt, tyInt, tySlotS, tySlotS, tyCtl, tyInt, tyExit, tyBool, tyIntS] r) : ∃ x, r = rGuest x ∧ WfGuest x := by
 obtain ⟨a0, b0, e0, g0, h0⟩ := isL_cons h
 obtain ⟨x0, e00, w0⟩ := is_InsS _ g0
 obtain ⟨a1, b1, e1, g1, h1⟩ := isL_cons h0
 obtain ⟨x1, e11, w1⟩ := is_Int _ g1
 obtain ⟨a2, b2, e2, g2, h2⟩ := isL_cons h1
 obtain ⟨x2, e22, w2⟩ := is_Int _ g2
 obtain ⟨a3, b3, e3, g3, h3⟩ := isL_cons h2
 obtain ⟨x3, e33, w3⟩ := is_SlotS _ g3
 obtain ⟨a4, b4, e4, g4, h4⟩ := isL_cons h3
 obtain ⟨x4, e44, w4⟩ := is_SlotS _ g4
 obtain ⟨a5, b5, e5, g5, h5⟩ := isL_cons h4
 obtain ⟨x5, e55, w5⟩ := is_Ctl _ g5
 obtain ⟨a6, b6, e6, g6, h6⟩ := isL_cons h5
 obtain ⟨x6, e66, w6⟩ := is_Int _ g6
 obtain ⟨a7, b7, e7, g7, h7⟩ := isL_cons h6
 obtain ⟨x7, e77, w7⟩ := is_Exit _ g7
 obtain ⟨a8, b8, e8, g8, h8⟩ := isL_cons h7
 obtain ⟨x8, e88, w8⟩ := is_Bool _ g8
 obtain ⟨a9, b9, e9, g9, h9⟩ := isL_cons h8
 obtain ⟨x9, e99, w9⟩ := is_IntS _ g9
 have en := isL_nil h9
 exact ⟨⟨x0, x1, x2, x3, x4, x5, x6, x7, x8, x9⟩, by rw [e0, e00, e1, e11, e2, e22, e3, e33, e4, e44, e5, e55, e6, e66, e7, e77, e8, e88, e9, e99, en]; rfl, ⟨w0, w1, w2, w3, w4, w5, w6, w7, w8, w9⟩⟩
theorem el_Guest (d : D) (h : tyGuest.elem d) : ∃ x, d = dGuest x ∧ WfGuest x := by
 rw [Ty.elem] at h
 obtain ⟨r, rfl, h⟩ := h
 obtain ⟨x, rfl, hx⟩ := isL_Guest r h
 exact ⟨x, rfl, hx⟩
abbrev tyGuestS : Ty := .list tyGuest
def WfGuestS (xs : List VGuest) : Prop := ∀ x ∈ xs, WfGuest x
theorem is_GuestS (r : List D) (h : tyGuestS.is r) : ∃ x, r = [dGuestS x] ∧ WfGuestS x := by
 rw [Ty.is] at h
 obtain ⟨ds, rfl, h⟩ := h
 obtain ⟨xs, rfl, hx⟩ := map_of2 el_Guest h
 exact ⟨xs, rfl, hx⟩
abbrev tyKept : Ty := .st [tyBoolS, tySlotS]
def WfKept (x : VKept) : Prop := WfBoolS x.Known ∧ WfSlotS x.Slots
theorem isL_Kept (r : List D) (h : isL [tyBoolS, tySlotS] r) : ∃ x, r = rKept x ∧ WfKept x := by
 obtain ⟨a0, b0, e0, g0, h0⟩ := isL_cons h
 obtain ⟨x0, e00, w0⟩ := is_BoolS _ g0
 obtain ⟨a1, b1, e1, g1, h1⟩ := isL_cons h0
 obtain ⟨x1, e11, w1⟩ := is_SlotS _ g1
 have en := isL_nil h1
 exact ⟨⟨x0, x1⟩, by rw [e0, e00, e1, e11, en]; rfl, ⟨w0, w1⟩⟩
theorem el_Kept (d : D) (h : tyKept.elem d) : ∃ x, d = dKept x ∧ WfKept x := by
 rw [Ty.elem] at h
 obtain ⟨r, rfl, h⟩ := h
 obtain ⟨x, rfl, hx⟩ := isL_Kept r h
 exact ⟨x, rfl, hx⟩
abbrev tyKeptS : Ty := .list tyKept
def WfKeptS (xs : List VKept) : Prop := ∀ x ∈ xs, WfKept x
theorem is_KeptS (r : List D) (h : tyKeptS.is r) : ∃ x, r = [dKeptS x] ∧ WfKeptS x := by
 rw [Ty.is] at h
 obtain ⟨ds, rfl, h⟩ := h
 obtain ⟨xs, rfl, hx⟩ := map_of2 el_Kept h
 exact ⟨xs, rfl, hx⟩
abbrev tyMon : Ty := .st [tySlotS, tyIntSS, tyBoolS, tyGuestS, tyIntS, tyInt, tyInt, tyKeptS, tyInt]
def WfMon (x : VMon) : Prop := WfSlotS x.Outer ∧ WfIntSS x.Out ∧ WfBoolS x.Dirty ∧ WfGuestS x.Guests ∧ WfIntS x.Outs ∧ WfInt x.Pending ∧ WfInt x.Traps ∧ WfKeptS x.Tables ∧ WfInt x.Own
theorem isL_Mon (r : List D) (h : isL [tySlotS, tyIntSS, tyBoolS, tyGuestS, tyIntS, tyInt, tyInt, tyKeptS, tyInt] r) : ∃ x, r = rMon x ∧ WfMon x := by
 obtain ⟨a0, b0, e0, g0, h0⟩ := isL_cons h
 obtain ⟨x0, e00, w0⟩ := is_SlotS _ g0
 obtain ⟨a1, b1, e1, g1, h1⟩ := isL_cons h0
 obtain ⟨x1, e11, w1⟩ := is_IntSS _ g1
 obtain ⟨a2, b2, e2, g2, h2⟩ := isL_cons h1
 obtain ⟨x2, e22, w2⟩ := is_BoolS _ g2
 obtain ⟨a3, b3, e3, g3, h3⟩ := isL_cons h2
 obtain ⟨x3, e33, w3⟩ := is_GuestS _ g3
 obtain ⟨a4, b4, e4, g4, h4⟩ := isL_cons h3
 obtain ⟨x4, e44, w4⟩ := is_IntS _ g4
 obtain ⟨a5, b5, e5, g5, h5⟩ := isL_cons h4
 obtain ⟨x5, e55, w5⟩ := is_Int _ g5
 obtain ⟨a6, b6, e6, g6, h6⟩ := isL_cons h5
 obtain ⟨x6, e66, w6⟩ := is_Int _ g6
 obtain ⟨a7, b7, e7, g7, h7⟩ := isL_cons h6
 obtain ⟨x7, e77, w7⟩ := is_KeptS _ g7
 obtain ⟨a8, b8, e8, g8, h8⟩ := isL_cons h7
 obtain ⟨x8, e88, w8⟩ := is_Int _ g8
 have en := isL_nil h8
 exact ⟨⟨x0, x1, x2, x3, x4, x5, x6, x7, x8⟩, by rw [e0, e00, e1, e11, e2, e22, e3, e33, e4, e44, e5, e55, e6, e66, e7, e77, e8, e88, en]; rfl, ⟨w0, w1, w2, w3, w4, w5, w6, w7, w8⟩⟩
theorem el_Mon (d : D) (h : tyMon.elem d) : ∃ x, d = dMon x ∧ WfMon x := by
 rw [Ty.elem] at h
 obtain ⟨r, rfl, h⟩ := h
 obtain ⟨x, rfl, hx⟩ := isL_Mon r h
 exact ⟨x, rfl, hx⟩
abbrev tyMonS : Ty := .list tyMon
def WfMonS (xs : List VMon) : Prop := ∀ x ∈ xs, WfMon x
theorem is_MonS (r : List D) (h : tyMonS.is r) : ∃ x, r = [dMonS x] ∧ WfMonS x := by
 rw [Ty.is] at h
 obtain ⟨ds, rfl, h⟩ := h
 obtain ⟨xs, rfl, hx⟩ := map_of2 el_Mon h
 exact ⟨xs, rfl, hx⟩
abbrev tyEntry : Ty := .st [tyInt, tyInt, tyInt, tyInt]
def WfEntry (x : VEntry) : Prop := WfInt x.Tag ∧ WfInt x.Page ∧ WfInt x.Host ∧ WfInt x.Rights
theorem isL_Entry (r : List D) (h : isL [tyInt, tyInt, tyInt, tyInt] r) : ∃ x, r = rEntry x ∧ WfEntry x := by
 obtain ⟨a0, b0, e0, g0, h0⟩ := isL_cons h
 obtain ⟨x0, e00, w0⟩ := is_Int _ g0
 obtain ⟨a1, b1, e1, g1, h1⟩ := isL_cons h0
 obtain ⟨x1, e11, w1⟩ := is_Int _ g1
 obtain ⟨a2, b2, e2, g2, h2⟩ := isL_cons h1
 obtain ⟨x2, e22, w2⟩ := is_Int _ g2
 obtain ⟨a3, b3, e3, g3, h3⟩ := isL_cons h2
 obtain ⟨x3, e33, w3⟩ := is_Int _ g3
 have en := isL_nil h3
 exact ⟨⟨x0, x1, x2, x3⟩, by rw [e0, e00, e1, e11, e2, e22, e3, e33, en]; rfl, ⟨w0, w1, w2, w3⟩⟩
theorem el_Entry (d : D) (h : tyEntry.elem d) : ∃ x, d = dEntry x ∧ WfEntry x := by
 rw [Ty.elem] at h
 obtain ⟨r, rfl, h⟩ := h
 obtain ⟨x, rfl, hx⟩ := isL_Entry r h
 exact ⟨x, rfl, hx⟩
abbrev tyEntryS : Ty := .list tyEntry
def WfEntryS (xs : List VEntry) : Prop := ∀ x ∈ xs, WfEntry x
theorem is_EntryS (r : List D) (h : tyEntryS.is r) : ∃ x, r = [dEntryS x] ∧ WfEntryS x := by
 rw [Ty.is] at h
 obtain ⟨ds, rfl, h⟩ := h
 obtain ⟨xs, rfl, hx⟩ := map_of2 el_Entry h
 exact ⟨xs, rfl, hx⟩
def WfHost (x : VHost) : Prop := WfIntSS x.Memory ∧ WfMonS x.Mons ∧ WfEntryS x.Buffer ∧ WfEntryS x.IoBuffer
theorem isL_Host (r : List D) (h : isL [tyIntSS, tyMonS, tyEntryS, tyEntryS] r) : ∃ x, r = rHost x ∧ WfHost x := by
 obtain ⟨a0, b0, e0, g0, h0⟩ := isL_cons h
 obtain ⟨x0, e00, w0⟩ := is_IntSS _ g0
 obtain ⟨a1, b1, e1, g1, h1⟩ := isL_cons h0
 obtain ⟨x1, e11, w1⟩ := is_MonS _ g1
 obtain ⟨a2, b2, e2, g2, h2⟩ := isL_cons h1
 obtain ⟨x2, e22, w2⟩ := is_EntryS _ g2
 obtain ⟨a3, b3, e3, g3, h3⟩ := isL_cons h2
 obtain ⟨x3, e33, w3⟩ := is_EntryS _ g3
 have en := isL_nil h3
 exact ⟨⟨x0, x1, x2, x3⟩, by rw [e0, e00, e1, e11, e2, e22, e3, e33, en]; rfl, ⟨w0, w1, w2, w3⟩⟩
theorem contract (H : Type) (enc : TypeId × Value → H) (W : World) (base : Nat) (args : Array Value) (ds gs : List (DataW H)) (before : List MemPlace)
  (hval : ∀ (j : Nat) t v, Tryz.f8.params[j]? = some t → args[j]? = some v → Value.okWide Tryz.prog W .any base t v)
  (hW : DataW.Whole enc Tryz.prog Tryz.f8.params.toList Rows.fnExactMoveAllSpec.vars false W args.toList ds gs before) :
  Calls Tryz.prog 8 args W fun e W' => ∃ v, e = .returned v ∧ Rows.fnExactMoveAllSpec.post enc Tryz.prog Tryz.f8 false true false false W args v W' := by
 have hW' := hW
 obtain ⟨p, q, hA0, hV, rfl, hfz, hnd⟩ := hW
 have hA : DataW.TrodAll enc Tryz.prog W 0 (fun _ => true) true Tryz.f8.params.toList args.toList ds p := hA0
 rw [Tryz.params8] at hA hval
 obtain ⟨v0, vs0, d0, ds0, p0, q0, hargs0, rfl, rfl, h0, r0⟩ := trodAll_cons hA
 obtain ⟨v1, vs1, d1, ds1, p1, q1, hargs1, rfl, rfl, h1, r1⟩ := trodAll_cons r0
 obtain ⟨v2, vs2, d2, ds2, p2, q2, hargs2, rfl, rfl, h2, r2⟩ := trodAll_cons r1
 obtain ⟨v3, vs3, d3, ds3, p3, q3, hargs3, rfl, rfl, h3, r3⟩ := trodAll_cons r2
 obtain ⟨rfl, rfl, rfl⟩ := trodAll_nil r3
 obtain rfl : args = #[v0, v1, v2, v3] := by cases args; simp_all
 obtain ⟨rfl, rfl⟩ := trodVars_none hV
 clear hA0
 simp only [List.append_nil] at hW'
 have hlt : ∀ x ∈ (p0 ++ (p1 ++ (p2 ++ (p3)))), x.block < W.heap.size := fun x hx => hW'.lt x hx
 obtain ⟨us0, hv0, _⟩ := okWide_struct Tryz.underlying46 (hval 0 46 v0 rfl rfl)
 obtain ⟨l0, hl0, hrep0⟩ := arg_struct (fs := [tyIntSS, tyMonS, tyEntryS, tyEntryS]) (by kernel_rfl) h0 hv0
 obtain ⟨x0, rfl, hwf0⟩ := isL_Host l0 hl0
 obtain ⟨us1, hv1, _⟩ := okWide_struct Tryz.underlying46 (hval 1 46 v1 rfl rfl)
 obtain ⟨l1, hl1, hrep1⟩ := arg_struct (fs := [tyIntSS, tyMonS, tyEntryS, tyEntryS]) (by kernel_rfl) h1 hv1
 obtain ⟨x1, rfl, hwf1⟩ := isL_Host l1 hl1
 obtain ⟨a2, hv2⟩ := okWide_int Tryz.underlying3 (hval 2 3 v2 rfl rfl)
 obtain ⟨l2, hl2, hrep2⟩ := arg_cell (e := tyInt) (by kernel_rfl) h2 (by rw [hv2]; rfl) rfl
 obtain ⟨x2, rfl, hwf2⟩ := el_Int l2 hl2
 obtain ⟨a3, len3, cap3, hv3⟩ := okWide_slice Tryz.underlying23 (hval 3 23 v3 rfl rfl)
 obtain ⟨l3, hl3, hrep3⟩ := arg_cell (e := tyIntS) (by kernel_rfl) h3 (by rw [hv3]; rfl) rfl
 obtain ⟨x3, rfl, hwf3⟩ := el_IntS l3 hl3
 refine (Fun.done (laws_FnExactMoveAll_f x0 x1 x2 x3) (W := W) (args := #[v0, v1, v2, v3]) rfl fun g hg i t u hi hu => ?_).mono fun e W' ⟨he, hb⟩ => ?_
 ·match i, hi, hu with
  | 0, hi, hu =>
   have hi' := Option.some.inj hi
   have hu' : v0 = u := by simpa using hu
   subst hi'; subst hu'
   exact hrep0 g hg
  | 1, hi, hu =>
   have hi' := Option.some.inj hi
   have hu' : v1 = u := by simpa using hu
   subst hi'; subst hu'
   exact hrep1 g hg
  | 2, hi, hu =>
   have hi' := Option.some.inj hi
   have hu' : v2 = u := by simpa using hu
   subst hi'; subst hu'
   exact hrep2 g hg
  | 3, hi, hu =>
   have hi' := Option.some.inj hi
   have hu' : v3 = u := by simpa using hu
   subst hi'; subst hu'
   exact hrep3 g hg
 ·subst he
  exact ⟨_, rfl, post_of_below (pa := (p0 ++ (p1 ++ (p2 ++ (p3))))) (pv := []) hW' (fun _ _ _ => (trodAll_cons_mk (shut_bool Tryz.underlying4 _) trodAll_mk0))
   (fun sp hsp => by
    have := trodAll_cons_mk (WideElems.Trod_stays (by kernel_rfl) (by kernel_rfl) (of_decide_eq_true (by kernel_rfl)) h0 (fun x hx => hb.same (hlt x (by simp [List.mem_append, hx]))) (fun x hx => hsp x (by simp [List.mem_append, hx]))) (trodAll_cons_mk (WideElems.Trod_stays (by kernel_rfl) (by kernel_rfl) (of_decide_eq_true (by kernel_rfl)) h1 (fun x hx => hb.same (hlt x (by simp [List.mem_append, hx]))) (fun x hx => hsp x (by simp [List.mem_append, hx]))) (trodAll_cons_mk (WideElems.Trod_stays (by kernel_rfl) (by kernel_rfl) (of_decide_eq_true (by kernel_rfl)) h2 (fun x hx => hb.same (hlt x (by simp [List.mem_append, hx]))) (fun x hx => hsp x (by simp [List.mem_append, hx]))) (trodAll_mk1 (WideElems.Trod_stays (by kernel_rfl) (by kernel_rfl) (of_decide_eq_true (by kernel_rfl)) h3 (fun x hx => hb.same (hlt x (by simp [List.mem_append, hx]))) (fun x hx => hsp x (by simp [List.mem_append, hx]))))))
    exact this) (fun _ _ => rfl) (by simp)
   hb (ok_one (by kernel_rfl) rfl (okWide_bool_mk Tryz.underlying4 _))⟩
theorem lifted (os : Os) (started : os.Started) (H : Type) (enc : TypeId × Value → H) :
  ReturnsInHanded {} Tryz.checked os 8 .any (Rows.fnExactMoveAllSpec.pre6 enc Tryz.prog Tryz.f8 Rows.fnExactMoveAllRow.domain false) (Rows.fnExactMoveAllSpec.post enc Tryz.prog Tryz.f8 false true false false) := by
 refine returnsInHanded_of_change (C := Tryz.checked) own started (by kernel_rfl) Tryz.func8
  (ChangeSpec.witness6 (enc := enc) (C := Tryz.checked) false ⟨#[], #[.agg #[.slice none 0 0, .slice none 0 0, .slice none 0 0, .slice none 0 0], .agg #[.slice none 0 0, .slice none 0 0, .slice none 0 0, .slice none 0 0], .int .i64 0, .slice none 0 0], []⟩ 8 (by kernel_rfl) (by kernel_rfl) (by kernel_rfl) (by kernel_rfl)) ?_
 intro W base args ds gs before hval hW _ _
 exact contract H enc W base args ds gs before hval hW
set_option maxHeartbeats 8000000 in
theorem joined : joinedFacts Tryz.pinned.checked.prog 8 Tryz.f8 Rows.fnExactMoveAllSpec Rows.fnExactMoveAllRow = true := by
 unfold joinedFacts
 simp only [Bool.and_eq_true]
 repeat' apply And.intro
 all_goals (as_aux_lemma => kernel_rfl)
theorem proved : Rows.FnExactMoveAllSaid :=
 OpenClaim.holds_of_wide 8 Tryz.f8 rfl rfl rfl rfl rfl rfl rfl ⟨rfl, rfl, rfl, rfl, rfl⟩ rfl rfl rfl rfl rfl (by kernel_rfl) Tryz.func8 joined
  (of_decide_eq_true (by kernel_rfl)) (by unfold Func.isWrapper; first | (rw [if_pos (by decide +kernel)]; kernel_rfl) | (rw [if_neg (by decide +kernel)]; exact ⟨rfl, rfl⟩))
  (fun os started H enc _ => lifted os started H enc)
end Go.Proofs.YteelmdpahpggkaaGreat.ExactMoveAll
#print axioms Go.Proofs.YteelmdpahpggkaaGreat.ExactMoveAll.proved

