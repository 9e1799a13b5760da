/- Numerals, names and lines of instructions: both sides' walks. PRINTED by gen.py out of spec_ins.py. -/
import Derived.Test.YtfiakjbnfaaamaaDoorT3
import Derived.Test.YtfiakjbnfaaamaaDoorTzc
namespace Go.Proofs.YtfiakjbnfaaamaaDoor.T
open Go
set_option linter.unusedVariables false
set_option linter.unusedSimpArgs false
set_option maxRecDepth 100000
set_option maxHeartbeats 1000000

theorem at_of {α : Type} {xs : List α} {k : Nat} (h : k < xs.length) : ∃ x, xs[k]? = some x := ⟨xs[k], List.getElem?_eq_getElem h⟩
theorem eq_step {α : Type} {xs ys : List α} {k : Nat} {x : α} (h : xs.take k = ys.take k) (hx : xs[k]? = some x) (hy : ys[k]? = some x) : xs.take (k + 1) = ys.take (k + 1) := by
  rw [List.take_add_one, List.take_add_one, h, hx, hy]
theorem eq_off {α : Type} {xs ys : List α} {k : Nat} {x y : α} (hx : xs[k]? = some x) (hy : ys[k]? = some y) (h : x ≠ y) : xs ≠ ys := fun e => by
  subst e
  rw [hx] at hy
  exact h (Option.some.inj hy)
theorem eq_all {α : Type} {xs ys : List α} {k : Nat} (hl : xs.length = ys.length) (h : xs.take k = ys.take k) (hk : xs.length ≤ k) : xs = ys := by
  rwa [List.take_of_length_le hk, List.take_of_length_le (by omega)] at h
/-- A size that is reckoned off, element by element; -1 where it falls short. -/
def szFold {α : Type} (f : α → Int → Int) : List α → Int → Int
  | [], n => n
  | x :: l, n => if f x n < 0 then -1 else szFold f l (f x n)
def szThen : List (Int → Int) → Int → Int
  | [], n => n
  | f :: l, n => if f n < 0 then -1 else szThen l (f n)
theorem szFold_ok {α : Type} {f : α → Int → Int} {S : α → Prop} (hf : ∀ x n, 0 ≤ f x n → f x n ≤ n ∧ (n ≤ 1048576 → S x)) : ∀ (xs : List α) (n : Int), 0 ≤ szFold f xs n → szFold f xs n ≤ n ∧ (n ≤ 1048576 → ∀ x ∈ xs, S x)
  | [], n, h => ⟨by simp [szFold], fun _ x hx => by cases hx⟩
  | x :: l, n, h => by
    unfold szFold at h ⊢
    split at h
    · omega
    · rename_i h0
      rw [if_neg h0]
      have h1 := hf x n (by omega)
      have h2 := szFold_ok hf l _ h
      refine ⟨by omega, fun hn y hy => ?_⟩
      rcases List.mem_cons.1 hy with rfl | hy
      · exact h1.2 hn
      · exact h2.2 (by omega) y hy
theorem szFold_drop {α : Type} {f : α → Int → Int} {xs : List α} {k : Nat} {x : α} (h : xs[k]? = some x) (n : Int) : szFold f (xs.drop k) n = if f x n < 0 then -1 else szFold f (xs.drop (k + 1)) (f x n) := by
  have hk := (List.getElem?_eq_some_iff.1 h).1
  rw [List.drop_eq_getElem_cons hk]
  have : xs[k] = x := (List.getElem?_eq_some_iff.1 h).2
  rw [this]
  rfl
abbrev dInt (x : Int) : D := .v (.int .i64 x)
theorem wh_Int (x : Int) : ∀ c ∈ (dInt x).row, Whole c := by intro c hc; simp only [D.row, List.mem_cons, List.not_mem_nil, or_false] at hc; subst hc; exact .v _
structure VAct where
  Kind : Int
  M : Int
  G : Int
  X : Int
  Y : Int
  Z : Int
  deriving DecidableEq
abbrev rAct (x : VAct) : List D := [.v (.int .i64 x.Kind), .v (.int .i64 x.M), .v (.int .i64 x.G), .v (.int .i64 x.X), .v (.int .i64 x.Y), .v (.int .i64 x.Z)]
abbrev dAct (x : VAct) : D := .st (rAct x)
theorem wh_Act (x : VAct) : ∀ c ∈ (dAct x).row, Whole c := by
  intro c hc
  simp only [D.row, rAct, List.mem_cons, List.not_mem_nil, or_false] at hc
  rcases hc with rfl | rfl | rfl | rfl | rfl | rfl
  all_goals first | exact .v _
theorem zeroAct : (VAct.mk 0 0 0 0 0 0) = VAct.mk 0 0 0 0 0 0 := rfl
structure VIns where
  Op : Int
  X : Int
  deriving DecidableEq
abbrev rIns (x : VIns) : List D := [.v (.int .i64 x.Op), .v (.int .i64 x.X)]
abbrev dIns (x : VIns) : D := .st (rIns x)
theorem wh_Ins (x : VIns) : ∀ c ∈ (dIns x).row, Whole c := by
  intro c hc
  simp only [D.row, rIns, List.mem_cons, List.not_mem_nil, or_false] at hc
  rcases hc with rfl | rfl
  all_goals first | exact .v _
theorem zeroIns : (VIns.mk 0 0) = VIns.mk 0 0 := rfl
abbrev dInsS (xs : List VIns) : D := .sl 2 (xs.map dIns)
theorem w_InsS (xs : List VIns) : Whole (.sl 2 (xs.map dIns)) := whole_map _ xs wh_Ins
theorem wh_InsS (xs : List VIns) : ∀ c ∈ (dInsS xs).row, Whole c := by intro c hc; simp only [D.row, List.mem_cons, List.not_mem_nil, or_false] at hc; subst hc; exact w_InsS xs
def SmInsS (xs : List VIns) : Prop := xs.length ≤ 1048576
abbrev dInsSS (xs : List (List VIns)) : D := .sl 1 (xs.map dInsS)
theorem w_InsSS (xs : List (List VIns)) : Whole (.sl 1 (xs.map dInsS)) := whole_map _ xs wh_InsS
theorem wh_InsSS (xs : List (List VIns)) : ∀ c ∈ (dInsSS xs).row, Whole c := by intro c hc; simp only [D.row, List.mem_cons, List.not_mem_nil, or_false] at hc; subst hc; exact w_InsSS xs
def SmInsSS (xs : List (List VIns)) : Prop := xs.length ≤ 1048576 ∧ ∀ x ∈ xs, SmInsS x
abbrev dInsSSS (xs : List (List (List VIns))) : D := .sl 1 (xs.map dInsSS)
theorem w_InsSSS (xs : List (List (List VIns))) : Whole (.sl 1 (xs.map dInsSS)) := whole_map _ xs wh_InsSS
theorem wh_InsSSS (xs : List (List (List VIns))) : ∀ c ∈ (dInsSSS xs).row, Whole c := by intro c hc; simp only [D.row, List.mem_cons, List.not_mem_nil, or_false] at hc; subst hc; exact w_InsSSS xs
def SmInsSSS (xs : List (List (List VIns))) : Prop := xs.length ≤ 1048576 ∧ ∀ x ∈ xs, SmInsSS x
abbrev dActS (xs : List VAct) : D := .sl 6 (xs.map dAct)
theorem w_ActS (xs : List VAct) : Whole (.sl 6 (xs.map dAct)) := whole_map _ xs wh_Act
theorem wh_ActS (xs : List VAct) : ∀ c ∈ (dActS xs).row, Whole c := by intro c hc; simp only [D.row, List.mem_cons, List.not_mem_nil, or_false] at hc; subst hc; exact w_ActS xs
def SmActS (xs : List VAct) : Prop := xs.length ≤ 1048576
structure VScript where
  All : List (List (List VIns))
  Acts : List VAct
  deriving DecidableEq
abbrev rScript (x : VScript) : List D := [.sl 1 (x.All.map dInsSS), .sl 6 (x.Acts.map dAct)]
abbrev dScript (x : VScript) : D := .st (rScript x)
theorem wh_Script (x : VScript) : ∀ c ∈ (dScript x).row, Whole c := by
  intro c hc
  simp only [D.row, rScript, List.mem_cons, List.not_mem_nil, or_false] at hc
  rcases hc with rfl | rfl
  all_goals first | exact w_ActS _ | exact w_InsSSS _
def SmScript (x : VScript) : Prop := SmInsSSS x.All ∧ SmActS x.Acts
theorem zeroScript : (VScript.mk [] []) = VScript.mk [] [] := rfl
abbrev dIntS (xs : List Int) : D := .sl 1 (xs.map dInt)
theorem w_IntS (xs : List Int) : Whole (.sl 1 (xs.map dInt)) := whole_map _ xs wh_Int
theorem wh_IntS (xs : List Int) : ∀ c ∈ (dIntS xs).row, Whole c := by intro c hc; simp only [D.row, List.mem_cons, List.not_mem_nil, or_false] at hc; subst hc; exact w_IntS xs
def SmIntS (xs : List Int) : Prop := xs.length ≤ 1048576
abbrev dIntSS (xs : List (List Int)) : D := .sl 1 (xs.map dIntS)
theorem w_IntSS (xs : List (List Int)) : Whole (.sl 1 (xs.map dIntS)) := whole_map _ xs wh_IntS
theorem wh_IntSS (xs : List (List Int)) : ∀ c ∈ (dIntSS xs).row, Whole c := by intro c hc; simp only [D.row, List.mem_cons, List.not_mem_nil, or_false] at hc; subst hc; exact w_IntSS xs
def SmIntSS (xs : List (List Int)) : Prop := xs.length ≤ 1048576 ∧ ∀ x ∈ xs, SmIntS x
structure VSlot where
  Page : Int
  Rights : Int
  deriving DecidableEq
abbrev rSlot (x : VSlot) : List D := [.v (.int .i64 x.Page), .v (.int .i64 x.Rights)]
abbrev dSlot (x : VSlot) : D := .st (rSlot x)
theorem wh_Slot (x : VSlot) : ∀ c ∈ (dSlot x).row, Whole c := by
  intro c hc
  simp only [D.row, rSlot, List.mem_cons, List.not_mem_nil, or_false] at hc
  rcases hc with rfl | rfl
  all_goals first | exact .v _
theorem zeroSlot : (VSlot.mk 0 0) = VSlot.mk 0 0 := rfl
abbrev dSlotS (xs : List VSlot) : D := .sl 2 (xs.map dSlot)
theorem w_SlotS (xs : List VSlot) : Whole (.sl 2 (xs.map dSlot)) := whole_map _ xs wh_Slot
theorem wh_SlotS (xs : List VSlot) : ∀ c ∈ (dSlotS xs).row, Whole c := by intro c hc; simp only [D.row, List.mem_cons, List.not_mem_nil, or_false] at hc; subst hc; exact w_SlotS xs
def SmSlotS (xs : List VSlot) : Prop := xs.length ≤ 1048576
abbrev dBool (x : Bool) : D := .v (.bool x)
theorem wh_Bool (x : Bool) : ∀ c ∈ (dBool x).row, Whole c := by intro c hc; simp only [D.row, List.mem_cons, List.not_mem_nil, or_false] at hc; subst hc; exact .v _
structure VCtl where
  Traps : Int
  Post : Int
  Open : Bool
  deriving DecidableEq
abbrev rCtl (x : VCtl) : List D := [.v (.int .i64 x.Traps), .v (.int .i64 x.Post), .v (.bool x.Open)]
abbrev dCtl (x : VCtl) : D := .st (rCtl x)
theorem wh_Ctl (x : VCtl) : ∀ c ∈ (dCtl x).row, Whole c := by
  intro c hc
  simp only [D.row, rCtl, List.mem_cons, List.not_mem_nil, or_false] at hc
  rcases hc with rfl | rfl | rfl
  all_goals first | exact .v _
theorem zeroCtl : (VCtl.mk 0 0 false) = VCtl.mk 0 0 false := rfl
structure VExit where
  Kind : Int
  Page : Int
  Write : Bool
  N : Int
  deriving DecidableEq
abbrev rExit (x : VExit) : List D := [.v (.int .i64 x.Kind), .v (.int .i64 x.Page), .v (.bool x.Write), .v (.int .i64 x.N)]
abbrev dExit (x : VExit) : D := .st (rExit x)
theorem wh_Exit (x : VExit) : ∀ c ∈ (dExit x).row, Whole c := by
  intro c hc
  simp only [D.row, rExit, List.mem_cons, List.not_mem_nil, or_false] at hc
  rcases hc with rfl | rfl | rfl | rfl
  all_goals first | exact .v _
theorem zeroExit : (VExit.mk 0 0 false 0) = VExit.mk 0 0 false 0 := rfl
structure VGuest where
  Prog : List VIns
  A : Int
  Pc : Int
  Written : List VSlot
  Live : List VSlot
  Ctl : VCtl
  Pending : Int
  Exit : VExit
  Halted : Bool
  Seen : List Int
  deriving DecidableEq
abbrev rGuest (x : VGuest) : List D := [.sl 2 (x.Prog.map dIns), .v (.int .i64 x.A), .v (.int .i64 x.Pc), .sl 2 (x.Written.map dSlot), .sl 2 (x.Live.map dSlot), .v (.int .i64 x.Ctl.Traps), .v (.int .i64 x.Ctl.Post), .v (.bool x.Ctl.Open), .v (.int .i64 x.Pending), .v (.int .i64 x.Exit.Kind), .v (.int .i64 x.Exit.Page), .v (.bool x.Exit.Write), .v (.int .i64 x.Exit.N), .v (.bool x.Halted), .sl 1 (x.Seen.map dInt)]
abbrev dGuest (x : VGuest) : D := .st (rGuest x)
theorem wh_Guest (x : VGuest) : ∀ c ∈ (dGuest x).row, Whole c := by
  intro c hc
  simp only [D.row, rGuest, List.mem_cons, List.not_mem_nil, or_false] at hc
  rcases hc with rfl | rfl | rfl | rfl | rfl | rfl | rfl | rfl | rfl | rfl | rfl | rfl | rfl | rfl | rfl
  all_goals first | exact .v _ | exact w_InsS _ | exact w_IntS _ | exact w_SlotS _
def SmGuest (x : VGuest) : Prop := SmInsS x.Prog ∧ SmSlotS x.Written ∧ SmSlotS x.Live ∧ SmIntS x.Seen
theorem zeroGuest : (VGuest.mk [] 0 0 [] [] (VCtl.mk 0 0 false) 0 (VExit.mk 0 0 false 0) false []) = VGuest.mk [] 0 0 [] [] (VCtl.mk 0 0 false) 0 (VExit.mk 0 0 false 0) false [] := rfl
abbrev dGuestS (xs : List VGuest) : D := .sl 15 (xs.map dGuest)
theorem w_GuestS (xs : List VGuest) : Whole (.sl 15 (xs.map dGuest)) := whole_map _ xs wh_Guest
theorem wh_GuestS (xs : List VGuest) : ∀ c ∈ (dGuestS xs).row, Whole c := by intro c hc; simp only [D.row, List.mem_cons, List.not_mem_nil, or_false] at hc; subst hc; exact w_GuestS xs
def SmGuestS (xs : List VGuest) : Prop := xs.length ≤ 1048576 ∧ ∀ x ∈ xs, SmGuest x
structure VBare where
  Memory : List (List Int)
  Guests : List VGuest
  Outs : List Int
  Pending : Int
  deriving DecidableEq
abbrev rBare (x : VBare) : List D := [.sl 1 (x.Memory.map dIntS), .sl 15 (x.Guests.map dGuest), .sl 1 (x.Outs.map dInt), .v (.int .i64 x.Pending)]
abbrev dBare (x : VBare) : D := .st (rBare x)
theorem wh_Bare (x : VBare) : ∀ c ∈ (dBare x).row, Whole c := by
  intro c hc
  simp only [D.row, rBare, List.mem_cons, List.not_mem_nil, or_false] at hc
  rcases hc with rfl | rfl | rfl | rfl
  all_goals first | exact .v _ | exact w_GuestS _ | exact w_IntS _ | exact w_IntSS _
def SmBare (x : VBare) : Prop := SmIntSS x.Memory ∧ SmGuestS x.Guests ∧ SmIntS x.Outs
theorem zeroBare : (VBare.mk [] [] [] 0) = VBare.mk [] [] [] 0 := rfl
abbrev dBoolS (xs : List Bool) : D := .sl 1 (xs.map dBool)
theorem w_BoolS (xs : List Bool) : Whole (.sl 1 (xs.map dBool)) := whole_map _ xs wh_Bool
theorem wh_BoolS (xs : List Bool) : ∀ c ∈ (dBoolS xs).row, Whole c := by intro c hc; simp only [D.row, List.mem_cons, List.not_mem_nil, or_false] at hc; subst hc; exact w_BoolS xs
def SmBoolS (xs : List Bool) : Prop := xs.length ≤ 1048576
structure VKept where
  Known : List Bool
  Slots : List VSlot
  deriving DecidableEq
abbrev rKept (x : VKept) : List D := [.sl 1 (x.Known.map dBool), .sl 2 (x.Slots.map dSlot)]
abbrev dKept (x : VKept) : D := .st (rKept x)
theorem wh_Kept (x : VKept) : ∀ c ∈ (dKept x).row, Whole c := by
  intro c hc
  simp only [D.row, rKept, List.mem_cons, List.not_mem_nil, or_false] at hc
  rcases hc with rfl | rfl
  all_goals first | exact w_BoolS _ | exact w_SlotS _
def SmKept (x : VKept) : Prop := SmBoolS x.Known ∧ SmSlotS x.Slots
theorem zeroKept : (VKept.mk [] []) = VKept.mk [] [] := rfl
abbrev dKeptS (xs : List VKept) : D := .sl 2 (xs.map dKept)
theorem w_KeptS (xs : List VKept) : Whole (.sl 2 (xs.map dKept)) := whole_map _ xs wh_Kept
theorem wh_KeptS (xs : List VKept) : ∀ c ∈ (dKeptS xs).row, Whole c := by intro c hc; simp only [D.row, List.mem_cons, List.not_mem_nil, or_false] at hc; subst hc; exact w_KeptS xs
def SmKeptS (xs : List VKept) : Prop := xs.length ≤ 1048576 ∧ ∀ x ∈ xs, SmKept x
structure VMon where
  Outer : List VSlot
  Out : List (List Int)
  Dirty : List Bool
  Guests : List VGuest
  Outs : List Int
  Pending : Int
  Traps : Int
  Tables : List VKept
  Own : Int
  deriving DecidableEq
abbrev rMon (x : VMon) : List D := [.sl 2 (x.Outer.map dSlot), .sl 1 (x.Out.map dIntS), .sl 1 (x.Dirty.map dBool), .sl 15 (x.Guests.map dGuest), .sl 1 (x.Outs.map dInt), .v (.int .i64 x.Pending), .v (.int .i64 x.Traps), .sl 2 (x.Tables.map dKept), .v (.int .i64 x.Own)]
abbrev dMon (x : VMon) : D := .st (rMon x)
theorem wh_Mon (x : VMon) : ∀ c ∈ (dMon x).row, Whole c := by
  intro c hc
  simp only [D.row, rMon, List.mem_cons, List.not_mem_nil, or_false] at hc
  rcases hc with rfl | rfl | rfl | rfl | rfl | rfl | rfl | rfl | rfl
  all_goals first | exact .v _ | exact w_BoolS _ | exact w_GuestS _ | exact w_IntS _ | exact w_IntSS _ | exact w_KeptS _ | exact w_SlotS _
def SmMon (x : VMon) : Prop := SmSlotS x.Outer ∧ SmIntSS x.Out ∧ SmBoolS x.Dirty ∧ SmGuestS x.Guests ∧ SmIntS x.Outs ∧ SmKeptS x.Tables
theorem zeroMon : (VMon.mk [] [] [] [] [] 0 0 [] 0) = VMon.mk [] [] [] [] [] 0 0 [] 0 := rfl
abbrev dMonS (xs : List VMon) : D := .sl 9 (xs.map dMon)
theorem w_MonS (xs : List VMon) : Whole (.sl 9 (xs.map dMon)) := whole_map _ xs wh_Mon
theorem wh_MonS (xs : List VMon) : ∀ c ∈ (dMonS xs).row, Whole c := by intro c hc; simp only [D.row, List.mem_cons, List.not_mem_nil, or_false] at hc; subst hc; exact w_MonS xs
def SmMonS (xs : List VMon) : Prop := xs.length ≤ 1048576 ∧ ∀ x ∈ xs, SmMon x
structure VEntry where
  Tag : Int
  Page : Int
  Host : Int
  Rights : Int
  deriving DecidableEq
abbrev rEntry (x : VEntry) : List D := [.v (.int .i64 x.Tag), .v (.int .i64 x.Page), .v (.int .i64 x.Host), .v (.int .i64 x.Rights)]
abbrev dEntry (x : VEntry) : D := .st (rEntry x)
theorem wh_Entry (x : VEntry) : ∀ c ∈ (dEntry x).row, Whole c := by
  intro c hc
  simp only [D.row, rEntry, List.mem_cons, List.not_mem_nil, or_false] at hc
  rcases hc with rfl | rfl | rfl | rfl
  all_goals first | exact .v _
theorem zeroEntry : (VEntry.mk 0 0 0 0) = VEntry.mk 0 0 0 0 := rfl
abbrev dEntryS (xs : List VEntry) : D := .sl 4 (xs.map dEntry)
theorem w_EntryS (xs : List VEntry) : Whole (.sl 4 (xs.map dEntry)) := whole_map _ xs wh_Entry
theorem wh_EntryS (xs : List VEntry) : ∀ c ∈ (dEntryS xs).row, Whole c := by intro c hc; simp only [D.row, List.mem_cons, List.not_mem_nil, or_false] at hc; subst hc; exact w_EntryS xs
def SmEntryS (xs : List VEntry) : Prop := xs.length ≤ 1048576
structure VHost where
  Memory : List (List Int)
  Mons : List VMon
  Buffer : List VEntry
  IoBuffer : List VEntry
  deriving DecidableEq
abbrev rHost (x : VHost) : List D := [.sl 1 (x.Memory.map dIntS), .sl 9 (x.Mons.map dMon), .sl 4 (x.Buffer.map dEntry), .sl 4 (x.IoBuffer.map dEntry)]
abbrev dHost (x : VHost) : D := .st (rHost x)
theorem wh_Host (x : VHost) : ∀ c ∈ (dHost x).row, Whole c := by
  intro c hc
  simp only [D.row, rHost, List.mem_cons, List.not_mem_nil, or_false] at hc
  rcases hc with rfl | rfl | rfl | rfl
  all_goals first | exact w_EntryS _ | exact w_IntSS _ | exact w_MonS _
def SmHost (x : VHost) : Prop := SmIntSS x.Memory ∧ SmMonS x.Mons ∧ SmEntryS x.Buffer ∧ SmEntryS x.IoBuffer
theorem zeroHost : (VHost.mk [] [] [] []) = VHost.mk [] [] [] [] := rfl

def inR (n a b : Int) : Bool := decide (a ≤ n) && decide (n ≤ b)
theorem all_step {α : Type} {P : α → Bool} {xs : List α} {k : Nat} {x : α} (h : (xs.take k).all P = true) (hx : xs[k]? = some x) (hp : P x = true) : (xs.take (k + 1)).all P = true := by
  rw [List.take_add_one, hx, List.all_append, h]
  simp [hp]
theorem all_off {α : Type} {P : α → Bool} {xs : List α} {k : Nat} {x : α} (hx : xs[k]? = some x) (hp : P x = false) : xs.all P = false := by
  rw [List.all_eq_false]
  exact ⟨x, List.mem_of_getElem? hx, by simp [hp]⟩
theorem all_all {α : Type} {P : α → Bool} {xs : List α} {k : Nat} (h : (xs.take k).all P = true) (hk : xs.length ≤ k) : xs.all P = true := by
  rwa [List.take_of_length_le hk] at h

def insOk (i : VIns) : Bool :=
  if i.Op = 1 ∨ i.Op = 2 ∨ i.Op = 5 ∨ i.Op = 6 then inR i.X 0 99 else if i.Op = 3 ∨ i.Op = 4 then inR i.X 0 15 else if i.Op = 7 then decide (i.X = 0) else if i.Op = 8 then inR i.X 0 11 else false
def progOk (p : List VIns) : Bool := p.all insOk && inR p.length 1 12
def slotOk (s : VSlot) (pages : Int) : Bool := decide (s = ⟨-1, 0⟩) || (decide (0 < pages) && inR s.Page 0 (pages - 1) && inR s.Rights 1 3)
def tableOk (t : List VSlot) (size pages : Int) : Bool := t.all (slotOk · pages) && decide ((t.length : Int) = size)
def ctlFaults (c : VCtl) : List Int :=
  (if inR c.Traps 0 3 then [] else [1]) ++ (if inR c.Post 0 255 then [] else [2]) ++ (if c.Post ≠ 0 ∧ c.Open = false then [3] else []) ++ (if c.Traps = 2 ∧ c.Post ≠ 0 then [4] else [])
def ctlOk (c : VCtl) : Bool := decide ((ctlFaults c).length = 0)
def exitOk (e : VExit) : Bool :=
  if e.Kind = 0 ∨ e.Kind = 4 then decide (e.Page = 0) && !e.Write && decide (e.N = 0) else if e.Kind = 1 then inR e.Page 0 3 && decide (e.N = 0)
  else if e.Kind = 2 ∨ e.Kind = 3 then inR e.N 0 99 && decide (e.Page = 0) && !e.Write else false
def pendOk (p : Int) : Bool := inR p 0 255
def pageOk (c : List Int) : Bool := c.all (inR · 0 99) && decide (c.length = 4)
def memOk (m : List (List Int)) (pages : Int) : Bool := m.all pageOk && decide ((m.length : Int) = pages)
def guestOk (g : VGuest) : Bool :=
  progOk g.Prog && inR g.A 0 99 && inR g.Pc 0 12 && tableOk g.Written 4 8 && tableOk g.Live 4 8 && ctlOk g.Ctl && pendOk g.Pending && exitOk g.Exit && decide (g.Seen.length ≤ 40)
def bareOk (b : VBare) : Bool := b.Guests.all guestOk && memOk b.Memory 8 && inR b.Guests.length 1 2 && decide (b.Outs.length ≤ 40) && pendOk b.Pending

abbrev I64 (n : Int) : Prop := -9223372036854775808 ≤ n ∧ n ≤ 9223372036854775807
def opNames : List ByteArray := ["set".toUTF8, "add".toUTF8, "load".toUTF8, "store".toUTF8, "out".toUTF8, "call".toUTF8, "halt".toUTF8, "jump".toUTF8]
def specOps : List ByteArray := ⟨#[]⟩ :: opNames
def opName (op : Int) : ByteArray := if inR op 1 8 then (opNames[(op - 1).toNat]?).getD ⟨#[]⟩ else ⟨#[63]⟩
theorem opName_size (op : Int) : (opName op).size ≤ 5 := by
  unfold opName
  split
  · rename_i h
    simp only [inR, Bool.and_eq_true, decide_eq_true_eq] at h
    have : op = 1 ∨ op = 2 ∨ op = 3 ∨ op = 4 ∨ op = 5 ∨ op = 6 ∨ op = 7 ∨ op = 8 := by omega
    rcases this with rfl | rfl | rfl | rfl | rfl | rfl | rfl | rfl <;> decide +kernel
  · decide +kernel
def insLine (i : VIns) : ByteArray := if insOk i then opName i.Op ++ ⟨#[32]⟩ ++ dec i.X else ⟨#[]⟩
theorem insOk_x {i : VIns} (h : insOk i = true) : I64 i.X := by
  unfold insOk at h
  repeat' split at h
  all_goals first | (simp only [inR, Bool.and_eq_true, decide_eq_true_eq] at h; exact ⟨by omega, by omega⟩) | cases h
def figure (x : Int) : Int := if x < 10 then 48 + x else 87 + x
-- loop.example/g00975/spec.l01In: params ['int', 'int', 'int'] results ['bool'] ('arr', [('app', 'Go.ResultVar.tmp', ['6'])])
-- loop.example/g00975/spec.InsOk: params ['impl.Ins = loop.example/g00975/impl.Ins'] results ['bool'] ('arr', [('app', 'Go.ResultVar.tmp', ['2'])])
-- loop.example/g00975/spec.OpName: params ['int'] results ['string'] ('arr', [('app', 'Go.ResultVar.tmp', ['2'])])
-- loop.example/g00975/impl.within: params ['int', 'int', 'int'] results ['bool'] ('arr', [('app', 'Go.ResultVar.tmp', ['6'])])
theorem impl_within_f (n a b : Int) : Fun Tryd.prog 19 [I n, I a, I b] (RV (.bool (inR n a b))) := by
  refine Fun.of Tryd.func19 rfl (by simp [Tryd.ntmps19]) fun w g0 => ?_
  simp only [Tryd.ntmps19, List.length_cons, List.length_nil, Nat.reduceAdd, Nat.reduceSub, List.replicate, List.cons_append, List.nil_append]
  refine TC.seq ?_
  -- region 0
  refine TC.region ?_
  refine TL.vE (Val.assign 1 rfl rfl) ?_
  refine TL.nil ?_
  show TC _ _ _ _ _ _
  refine TC.seq ?_
  -- region 1
  refine TC.region ?_
  refine TL.vE (Val.move 1 rfl rfl) ?_
  refine TL.vE (Val.move 1 rfl rfl) ?_
  refine TL.vE (Val.geq rfl rfl rfl) ?_
  refine TL.vE (Val.move 1 rfl rfl) ?_
  refine TL.splitG 3 rfl (fun hg3 => ?_) (fun hg3 => ?_)
  · refine TL.gE rfl hg3 (Val.move 1 rfl rfl) ?_
    refine TL.gE rfl hg3 (Val.move 1 rfl rfl) ?_
    refine TL.gE rfl hg3 (Val.leq rfl rfl rfl) ?_
    refine TL.vE (Val.pickT rfl rfl hg3 rfl) ?_
    refine TL.vE (Val.assign 1 rfl rfl) ?_
    refine TL.nil ?_
    show TC _ _ _ _ _ _
    refine TC.ret ?_
    exact ⟨.inr rfl, [_], [_], _, rfl, by decide, rfl, by simp [refV, refC, valC], rfl, resV (by simp_all [inR] <;> (try intros) <;> omega)⟩
  · iterate 3 (refine TL.skip (nope_b rfl rfl hg3) (by simp only [nput]; rfl) ?_)
    refine TL.vE (Val.pickF rfl rfl hg3 rfl) ?_
    refine TL.vE (Val.assign 1 rfl rfl) ?_
    refine TL.nil ?_
    show TC _ _ _ _ _ _
    refine TC.ret ?_
    exact ⟨.inr rfl, [_], [_], _, rfl, by decide, rfl, by simp [refV, refC, valC], rfl, resV (by simp_all [inR] <;> (try intros) <;> omega)⟩

-- loop.example/g00975/impl.InsOk: params ['impl.Ins = loop.example/g00975/impl.Ins'] results ['bool'] ('arr', [('app', 'Go.ResultVar.tmp', ['2'])])
theorem impl_InsOk_f (x : VIns) : Fun Tryd.prog 34 [A (rIns x)] (RV (.bool (insOk x))) := by
  refine Fun.of Tryd.func34 rfl (by simp [Tryd.ntmps34]) fun w g0 => ?_
  simp only [Tryd.ntmps34, List.length_cons, List.length_nil, Nat.reduceAdd, Nat.reduceSub, List.replicate, List.cons_append, List.nil_append]
  refine TC.seq ?_
  -- region 0
  refine TC.region ?_
  refine TL.opK rfl fun K hK => ?_
  first | refine OpT.box rfl rfl (z := 1) rfl (by simp) ?_ | refine OpT.boxAgg rfl rfl rfl ?_ -- 1
  simp only [nrm, Nat.reduceBEq, Nat.reduceBNe, reduceIte]
  refine hK _ ?_
  clear hK K
  refine TL.vE (Val.assign 1 rfl rfl) ?_
  refine TL.nil ?_
  show TC _ _ _ _ _ _
  refine TC.seq ?_
  refine TC.seq ?_
  -- region 1
  refine TC.region ?_
  refine TL.valE rfl (by first | exact Val.field rfl rfl rfl | exact Val.fieldC rfl rfl rfl) (by simp only [St.put, List.set_cons_succ, List.set_cons_zero, List.getElem_toArray, List.getElem_cons_succ, List.getElem_cons_zero, Nat.zero_add, Nat.reduceAdd]; rfl) ?_
  refine TL.valE rfl (by first | exact Val.load rfl rfl rfl rfl rfl | exact Val.loadC rfl rfl rfl) (by simp only [nput, valC]; rfl) ?_
  refine TL.nil ?_
  show TC _ _ _ _ _ _
  refine TC.block ?_
  refine TC.seq ?_
  refine TC.seq ?_
  -- region 2
  refine TC.region ?_
  refine TL.vE (Val.eql rfl rfl rfl) ?_
  refine TL.vE (Val.assign 1 rfl rfl) ?_
  refine TL.nil ?_
  show TC _ _ _ _ _ _
  refine TC.cond rfl (fun hb => ?_) (fun hb => ?_)
  · have hk5 := hb
    refine TC.skip ?_
    show TC _ _ _ _ _ _
    refine TC.cond rfl (fun hb => ?_) (fun hc => absurd (hc.symm.trans hk5) (by decide))
    refine TC.seq ?_
    -- region 6
    refine TC.region ?_
    refine TL.valE rfl (by first | exact Val.field rfl rfl rfl | exact Val.fieldC rfl rfl rfl) (by simp only [St.put, List.set_cons_succ, List.set_cons_zero, List.getElem_toArray, List.getElem_cons_succ, List.getElem_cons_zero, Nat.zero_add, Nat.reduceAdd]; rfl) ?_
    refine TL.valE rfl (by first | exact Val.load rfl rfl rfl rfl rfl | exact Val.loadC rfl rfl rfl) (by simp only [nput, valC]; rfl) ?_
    refine TL.cF ((impl_within_f _ _ _).k) ?_
    refine TL.vE (Val.assign 1 rfl rfl) ?_
    refine TL.nil ?_
    show TC _ _ _ _ _ _
    refine TC.ret ?_
    exact ⟨.inr rfl, [_], [_], _, rfl, by decide, rfl, by simp [refV, refC, valC], rfl, resV (by simp_all [insOk] <;> rfl)⟩
  have hk5 := hb
  refine TC.seq ?_
  -- region 3
  refine TC.region ?_
  refine TL.vE (Val.eql rfl rfl rfl) ?_
  refine TL.vE (Val.assign 1 rfl rfl) ?_
  refine TL.nil ?_
  show TC _ _ _ _ _ _
  refine TC.cond rfl (fun hb => ?_) (fun hb => ?_)
  · have hk5 := hb
    refine TC.skip ?_
    show TC _ _ _ _ _ _
    refine TC.cond rfl (fun hb => ?_) (fun hc => absurd (hc.symm.trans hk5) (by decide))
    refine TC.seq ?_
    -- region 6
    refine TC.region ?_
    refine TL.valE rfl (by first | exact Val.field rfl rfl rfl | exact Val.fieldC rfl rfl rfl) (by simp only [St.put, List.set_cons_succ, List.set_cons_zero, List.getElem_toArray, List.getElem_cons_succ, List.getElem_cons_zero, Nat.zero_add, Nat.reduceAdd]; rfl) ?_
    refine TL.valE rfl (by first | exact Val.load rfl rfl rfl rfl rfl | exact Val.loadC rfl rfl rfl) (by simp only [nput, valC]; rfl) ?_
    refine TL.cF ((impl_within_f _ _ _).k) ?_
    refine TL.vE (Val.assign 1 rfl rfl) ?_
    refine TL.nil ?_
    show TC _ _ _ _ _ _
    refine TC.ret ?_
    exact ⟨.inr rfl, [_], [_], _, rfl, by decide, rfl, by simp [refV, refC, valC], rfl, resV (by simp_all [insOk] <;> rfl)⟩
  have hk5 := hb
  refine TC.seq ?_
  -- region 4
  refine TC.region ?_
  refine TL.vE (Val.eql rfl rfl rfl) ?_
  refine TL.vE (Val.assign 1 rfl rfl) ?_
  refine TL.nil ?_
  show TC _ _ _ _ _ _
  refine TC.cond rfl (fun hb => ?_) (fun hb => ?_)
  · have hk5 := hb
    refine TC.skip ?_
    show TC _ _ _ _ _ _
    refine TC.cond rfl (fun hb => ?_) (fun hc => absurd (hc.symm.trans hk5) (by decide))
    refine TC.seq ?_
    -- region 6
    refine TC.region ?_
    refine TL.valE rfl (by first | exact Val.field rfl rfl rfl | exact Val.fieldC rfl rfl rfl) (by simp only [St.put, List.set_cons_succ, List.set_cons_zero, List.getElem_toArray, List.getElem_cons_succ, List.getElem_cons_zero, Nat.zero_add, Nat.reduceAdd]; rfl) ?_
    refine TL.valE rfl (by first | exact Val.load rfl rfl rfl rfl rfl | exact Val.loadC rfl rfl rfl) (by simp only [nput, valC]; rfl) ?_
    refine TL.cF ((impl_within_f _ _ _).k) ?_
    refine TL.vE (Val.assign 1 rfl rfl) ?_
    refine TL.nil ?_
    show TC _ _ _ _ _ _
    refine TC.ret ?_
    exact ⟨.inr rfl, [_], [_], _, rfl, by decide, rfl, by simp [refV, refC, valC], rfl, resV (by simp_all [insOk] <;> rfl)⟩
  have hk5 := hb
  -- region 5
  refine TC.region ?_
  refine TL.vE (Val.eql rfl rfl rfl) ?_
  refine TL.vE (Val.assign 1 rfl rfl) ?_
  refine TL.nil ?_
  show TC _ _ _ _ _ _
  refine TC.cond rfl (fun hb => ?_) (fun hb => ?_)
  · have hk5 := hb
    refine TC.seq ?_
    -- region 6
    refine TC.region ?_
    refine TL.valE rfl (by first | exact Val.field rfl rfl rfl | exact Val.fieldC rfl rfl rfl) (by simp only [St.put, List.set_cons_succ, List.set_cons_zero, List.getElem_toArray, List.getElem_cons_succ, List.getElem_cons_zero, Nat.zero_add, Nat.reduceAdd]; rfl) ?_
    refine TL.valE rfl (by first | exact Val.load rfl rfl rfl rfl rfl | exact Val.loadC rfl rfl rfl) (by simp only [nput, valC]; rfl) ?_
    refine TL.cF ((impl_within_f _ _ _).k) ?_
    refine TL.vE (Val.assign 1 rfl rfl) ?_
    refine TL.nil ?_
    show TC _ _ _ _ _ _
    refine TC.ret ?_
    exact ⟨.inr rfl, [_], [_], _, rfl, by decide, rfl, by simp [refV, refC, valC], rfl, resV (by simp_all [insOk] <;> rfl)⟩
  have hk5 := hb
  refine TC.seq ?_
  refine TC.seq ?_
  -- region 7
  refine TC.region ?_
  refine TL.vE (Val.eql rfl rfl rfl) ?_
  refine TL.vE (Val.assign 1 rfl rfl) ?_
  refine TL.nil ?_
  show TC _ _ _ _ _ _
  refine TC.cond rfl (fun hb => ?_) (fun hb => ?_)
  · have hk13 := hb
    refine TC.skip ?_
    show TC _ _ _ _ _ _
    refine TC.cond rfl (fun hb => ?_) (fun hc => absurd (hc.symm.trans hk13) (by decide))
    refine TC.seq ?_
    -- region 9
    refine TC.region ?_
    refine TL.valE rfl (by first | exact Val.field rfl rfl rfl | exact Val.fieldC rfl rfl rfl) (by simp only [St.put, List.set_cons_succ, List.set_cons_zero, List.getElem_toArray, List.getElem_cons_succ, List.getElem_cons_zero, Nat.zero_add, Nat.reduceAdd]; rfl) ?_
    refine TL.valE rfl (by first | exact Val.load rfl rfl rfl rfl rfl | exact Val.loadC rfl rfl rfl) (by simp only [nput, valC]; rfl) ?_
    refine TL.cF ((impl_within_f _ _ _).k) ?_
    refine TL.vE (Val.assign 1 rfl rfl) ?_
    refine TL.nil ?_
    show TC _ _ _ _ _ _
    refine TC.ret ?_
    exact ⟨.inr rfl, [_], [_], _, rfl, by decide, rfl, by simp [refV, refC, valC], rfl, resV (by simp_all [insOk] <;> rfl)⟩
  have hk13 := hb
  -- region 8
  refine TC.region ?_
  refine TL.vE (Val.eql rfl rfl rfl) ?_
  refine TL.vE (Val.assign 1 rfl rfl) ?_
  refine TL.nil ?_
  show TC _ _ _ _ _ _
  refine TC.cond rfl (fun hb => ?_) (fun hb => ?_)
  · have hk13 := hb
    refine TC.seq ?_
    -- region 9
    refine TC.region ?_
    refine TL.valE rfl (by first | exact Val.field rfl rfl rfl | exact Val.fieldC rfl rfl rfl) (by simp only [St.put, List.set_cons_succ, List.set_cons_zero, List.getElem_toArray, List.getElem_cons_succ, List.getElem_cons_zero, Nat.zero_add, Nat.reduceAdd]; rfl) ?_
    refine TL.valE rfl (by first | exact Val.load rfl rfl rfl rfl rfl | exact Val.loadC rfl rfl rfl) (by simp only [nput, valC]; rfl) ?_
    refine TL.cF ((impl_within_f _ _ _).k) ?_
    refine TL.vE (Val.assign 1 rfl rfl) ?_
    refine TL.nil ?_
    show TC _ _ _ _ _ _
    refine TC.ret ?_
    exact ⟨.inr rfl, [_], [_], _, rfl, by decide, rfl, by simp [refV, refC, valC], rfl, resV (by simp_all [insOk] <;> rfl)⟩
  have hk13 := hb
  refine TC.seq ?_
  -- region 10
  refine TC.region ?_
  refine TL.vE (Val.eql rfl rfl rfl) ?_
  refine TL.vE (Val.assign 1 rfl rfl) ?_
  refine TL.nil ?_
  show TC _ _ _ _ _ _
  refine TC.cond rfl (fun hb => ?_) (fun hb => ?_)
  · have hk19 := hb
    refine TC.seq ?_
    -- region 11
    refine TC.region ?_
    refine TL.valE rfl (by first | exact Val.field rfl rfl rfl | exact Val.fieldC rfl rfl rfl) (by simp only [St.put, List.set_cons_succ, List.set_cons_zero, List.getElem_toArray, List.getElem_cons_succ, List.getElem_cons_zero, Nat.zero_add, Nat.reduceAdd]; rfl) ?_
    refine TL.valE rfl (by first | exact Val.load rfl rfl rfl rfl rfl | exact Val.loadC rfl rfl rfl) (by simp only [nput, valC]; rfl) ?_
    refine TL.vE (Val.eql rfl rfl rfl) ?_
    refine TL.vE (Val.assign 1 rfl rfl) ?_
    refine TL.nil ?_
    show TC _ _ _ _ _ _
    refine TC.ret ?_
    exact ⟨.inr rfl, [_], [_], _, rfl, by decide, rfl, by simp [refV, refC, valC], rfl, resV (by simp_all [insOk] <;> rfl)⟩
  have hk19 := hb
  refine TC.seq ?_
  -- region 12
  refine TC.region ?_
  refine TL.vE (Val.eql rfl rfl rfl) ?_
  refine TL.vE (Val.assign 1 rfl rfl) ?_
  refine TL.nil ?_
  show TC _ _ _ _ _ _
  refine TC.cond rfl (fun hb => ?_) (fun hb => ?_)
  · have hk24 := hb
    refine TC.seq ?_
    -- region 13
    refine TC.region ?_
    refine TL.valE rfl (by first | exact Val.field rfl rfl rfl | exact Val.fieldC rfl rfl rfl) (by simp only [St.put, List.set_cons_succ, List.set_cons_zero, List.getElem_toArray, List.getElem_cons_succ, List.getElem_cons_zero, Nat.zero_add, Nat.reduceAdd]; rfl) ?_
    refine TL.valE rfl (by first | exact Val.load rfl rfl rfl rfl rfl | exact Val.loadC rfl rfl rfl) (by simp only [nput, valC]; rfl) ?_
    refine TL.cF ((impl_within_f _ _ _).k) ?_
    refine TL.vE (Val.assign 1 rfl rfl) ?_
    refine TL.nil ?_
    show TC _ _ _ _ _ _
    refine TC.ret ?_
    exact ⟨.inr rfl, [_], [_], _, rfl, by decide, rfl, by simp [refV, refC, valC], rfl, resV (by simp_all [insOk] <;> rfl)⟩
  have hk24 := hb
  refine TC.skip ?_
  show TC _ _ _ _ _ _
  refine TC.seq ?_
  -- region 14
  refine TC.region ?_
  refine TL.vE (Val.assign 1 rfl rfl) ?_
  refine TL.nil ?_
  show TC _ _ _ _ _ _
  refine TC.ret ?_
  exact ⟨.inr rfl, [_], [_], _, rfl, by decide, rfl, by simp [refV, refC, valC], rfl, resV (by simp_all [insOk] <;> rfl)⟩

-- loop.example/g00975/impl.OpName: params ['int'] results ['string'] ('arr', [('app', 'Go.ResultVar.tmp', ['2'])])
theorem impl_OpName_f (op : Int) : Fun Tryd.prog 33 [I op] (RV (.string (opName op))) := by
  refine Fun.of Tryd.func33 rfl (by simp [Tryd.ntmps33]) fun w g0 => ?_
  simp only [Tryd.ntmps33, List.length_cons, List.length_nil, Nat.reduceAdd, Nat.reduceSub, List.replicate, List.cons_append, List.nil_append]
  refine TC.seq ?_
  -- region 0
  refine TC.region ?_
  refine TL.vE (Val.assign 1 rfl rfl) ?_
  refine TL.nil ?_
  show TC _ _ _ _ _ _
  refine TC.seq ?_
  refine TC.seq ?_
  -- region 1
  refine TC.region ?_
  refine TL.vE (Val.move 1 rfl rfl) ?_
  refine TL.cF ((impl_within_f _ _ _).k) ?_
  refine TL.vE (Val.not rfl rfl) ?_
  refine TL.nil ?_
  show TC _ _ _ _ _ _
  refine TC.cond rfl (fun hb => ?_) (fun hb => ?_)
  · have hk5 := hb
    refine TC.seq ?_
    -- region 2
    refine TC.region ?_
    refine TL.vE (Val.assign 1 rfl rfl) ?_
    refine TL.nil ?_
    show TC _ _ _ _ _ _
    refine TC.ret ?_
    exact ⟨.inr rfl, [_], [_], _, rfl, by decide, rfl, by simp [refV, refC, valC], rfl, resV (by simp_all [opName, specOps])⟩
  have hk5 := hb
  refine TC.skip ?_
  show TC _ _ _ _ _ _
  refine TC.seq ?_
  have hr : 1 ≤ op ∧ op ≤ 8 := by simpa [inR] using hb
  obtain ⟨u, hu⟩ := at_of (xs := opNames) (k := (op - 1).toNat) (by simp [specOps, opNames]; omega)
  have hu3 : opNames[op.toNat - 1]? = some u := by rw [show op.toNat - 1 = (op - 1).toNat by omega]; exact hu
  -- region 3
  refine TC.region ?_
  refine TL.opK rfl fun K hK => ?_
  refine OpT.buildP rfl rfl (xs := opNames.map fun s => .const (.string s)) rfl rfl (tvs := opNames.map fun s => .c (.ro (.v (.string s)))) rfl rfl (sz := 1) rfl rfl rfl (by decide) (by decide) ?_ -- 6
  simp only [nrm, Nat.reduceBEq, Nat.reduceBNe, reduceIte]
  refine hK _ ?_
  clear hK K
  refine TL.vE (Val.move 1 rfl rfl) ?_
  refine TL.vE (Val.sub rfl rfl rfl (by first | omega | (simp only [List.length_map]; omega)) (by first | omega | (simp only [List.length_map]; omega))) ?_
  refine TL.vE (by exact Val.index rfl rfl rfl rfl rfl rfl (by omega) (by simp [specOps, opNames]; omega)) ?_
  refine TL.valE rfl (by exact Val.load rfl rfl rfl (c := .own (.v (.string u))) (by simp [St.cellAt, St.root, rowAt, D.row, elD, cellD, hu3]) rfl) (by simp only [nput, valC]; rfl) ?_
  refine TL.vE (Val.assign 1 rfl rfl) ?_
  refine TL.nil ?_
  show TC _ _ _ _ _ _
  refine TC.ret ?_
  exact ⟨.inr rfl, [_], [_], _, rfl, by decide, rfl, by simp [refV, refC, valC], rfl, resV (by unfold opName; rw [if_pos (by simpa using hb), hu]; rfl)⟩

-- loop.example/g00975/spec.l01Figure: params ['int'] results ['uint8'] ('arr', [('app', 'Go.ResultVar.tmp', ['2'])])
end Go.Proofs.YtfiakjbnfaaamaaDoor.T

