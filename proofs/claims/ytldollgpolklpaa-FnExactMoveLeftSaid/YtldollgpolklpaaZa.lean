/- Hosts, machines and moves as plain data. PRINTED by gen.py out of spec_host.py. -/
import Derived.Test.YtldollgpolklpaaT3
import Derived.Test.YtldollgpolklpaaRows
namespace Go.Proofs.Ytldollgpolklpaa.T
open Go
set_option linter.unusedVariables false
set_option linter.unusedSimpArgs false
set_option maxRecDepth 100000
set_option maxHeartbeats 4000000

theorem at_of {α : Type} {xs : List α} {k : Nat} (h : k < xs.length) : ∃ x, xs[k]? = some x := ⟨xs[k], List.getElem?_eq_getElem h⟩
theorem eq_step {α : Type} {xs ys : List α} {k : Nat} {x : α} (h : xs.take k = ys.take k) (hx : xs[k]? = some x) (hy : ys[k]? = some x) : xs.take (k + 1) = ys.take (k + 1) := by
  rw [List.take_add_one, List.take_add_one, h, hx, hy]
theorem eq_off {α : Type} {xs ys : List α} {k : Nat} {x y : α} (hx : xs[k]? = some x) (hy : ys[k]? = some y) (h : x ≠ y) : xs ≠ ys := fun e => by
  subst e
  rw [hx] at hy
  exact h (Option.some.inj hy)
theorem eq_all {α : Type} {xs ys : List α} {k : Nat} (hl : xs.length = ys.length) (h : xs.take k = ys.take k) (hk : xs.length ≤ k) : xs = ys := by
  rwa [List.take_of_length_le hk, List.take_of_length_le (by omega)] at h
/-- A size that is reckoned off, element by element; -1 where it falls short. -/
def szFold {α : Type} (f : α → Int → Int) : List α → Int → Int
  | [], n => n
  | x :: l, n => if f x n < 0 then -1 else szFold f l (f x n)
def szThen : List (Int → Int) → Int → Int
  | [], n => n
  | f :: l, n => if f n < 0 then -1 else szThen l (f n)
theorem szFold_ok {α : Type} {f : α → Int → Int} {S : α → Prop} (hf : ∀ x n, 0 ≤ f x n → f x n ≤ n ∧ (n ≤ 1048576 → S x)) : ∀ (xs : List α) (n : Int), 0 ≤ szFold f xs n → szFold f xs n ≤ n ∧ (n ≤ 1048576 → ∀ x ∈ xs, S x)
  | [], n, h => ⟨by simp [szFold], fun _ x hx => by cases hx⟩
  | x :: l, n, h => by
    unfold szFold at h ⊢
    split at h
    · omega
    · rename_i h0
      rw [if_neg h0]
      have h1 := hf x n (by omega)
      have h2 := szFold_ok hf l _ h
      refine ⟨by omega, fun hn y hy => ?_⟩
      rcases List.mem_cons.1 hy with rfl | hy
      · exact h1.2 hn
      · exact h2.2 (by omega) y hy
theorem szFold_drop {α : Type} {f : α → Int → Int} {xs : List α} {k : Nat} {x : α} (h : xs[k]? = some x) (n : Int) : szFold f (xs.drop k) n = if f x n < 0 then -1 else szFold f (xs.drop (k + 1)) (f x n) := by
  have hk := (List.getElem?_eq_some_iff.1 h).1
  rw [List.drop_eq_getElem_cons hk]
  have : xs[k] = x := (List.getElem?_eq_some_iff.1 h).2
  rw [this]
  rfl
abbrev dInt (x : Int) : D := .v (.int .i64 x)
theorem wh_Int (x : Int) : ∀ c ∈ (dInt x).row, Whole c := by intro c hc; simp only [D.row, List.mem_cons, List.not_mem_nil, or_false] at hc; subst hc; exact .v _
abbrev dIntS (xs : List Int) : D := .sl 1 (xs.map dInt)
theorem w_IntS (xs : List Int) : Whole (.sl 1 (xs.map dInt)) := whole_map _ xs wh_Int
theorem wh_IntS (xs : List Int) : ∀ c ∈ (dIntS xs).row, Whole c := by intro c hc; simp only [D.row, List.mem_cons, List.not_mem_nil, or_false] at hc; subst hc; exact w_IntS xs
def SmIntS (xs : List Int) : Prop := xs.length ≤ 1048576
abbrev dIntSS (xs : List (List Int)) : D := .sl 1 (xs.map dIntS)
theorem w_IntSS (xs : List (List Int)) : Whole (.sl 1 (xs.map dIntS)) := whole_map _ xs wh_IntS
theorem wh_IntSS (xs : List (List Int)) : ∀ c ∈ (dIntSS xs).row, Whole c := by intro c hc; simp only [D.row, List.mem_cons, List.not_mem_nil, or_false] at hc; subst hc; exact w_IntSS xs
def SmIntSS (xs : List (List Int)) : Prop := xs.length ≤ 1048576 ∧ ∀ x ∈ xs, SmIntS x
structure VSlot where
  Page : Int
  Rights : Int
  deriving DecidableEq
abbrev rSlot (x : VSlot) : List D := [.v (.int .i64 x.Page), .v (.int .i64 x.Rights)]
abbrev dSlot (x : VSlot) : D := .st (rSlot x)
theorem wh_Slot (x : VSlot) : ∀ c ∈ (dSlot x).row, Whole c := by
  intro c hc
  simp only [D.row, rSlot, List.mem_cons, List.not_mem_nil, or_false] at hc
  rcases hc with rfl | rfl
  all_goals first | exact .v _
theorem zeroSlot : (VSlot.mk 0 0) = VSlot.mk 0 0 := rfl
abbrev dSlotS (xs : List VSlot) : D := .sl 2 (xs.map dSlot)
theorem w_SlotS (xs : List VSlot) : Whole (.sl 2 (xs.map dSlot)) := whole_map _ xs wh_Slot
theorem wh_SlotS (xs : List VSlot) : ∀ c ∈ (dSlotS xs).row, Whole c := by intro c hc; simp only [D.row, List.mem_cons, List.not_mem_nil, or_false] at hc; subst hc; exact w_SlotS xs
def SmSlotS (xs : List VSlot) : Prop := xs.length ≤ 1048576
abbrev dBool (x : Bool) : D := .v (.bool x)
theorem wh_Bool (x : Bool) : ∀ c ∈ (dBool x).row, Whole c := by intro c hc; simp only [D.row, List.mem_cons, List.not_mem_nil, or_false] at hc; subst hc; exact .v _
abbrev dBoolS (xs : List Bool) : D := .sl 1 (xs.map dBool)
theorem w_BoolS (xs : List Bool) : Whole (.sl 1 (xs.map dBool)) := whole_map _ xs wh_Bool
theorem wh_BoolS (xs : List Bool) : ∀ c ∈ (dBoolS xs).row, Whole c := by intro c hc; simp only [D.row, List.mem_cons, List.not_mem_nil, or_false] at hc; subst hc; exact w_BoolS xs
def SmBoolS (xs : List Bool) : Prop := xs.length ≤ 1048576
structure VIns where
  Op : Int
  X : Int
  deriving DecidableEq
abbrev rIns (x : VIns) : List D := [.v (.int .i64 x.Op), .v (.int .i64 x.X)]
abbrev dIns (x : VIns) : D := .st (rIns x)
theorem wh_Ins (x : VIns) : ∀ c ∈ (dIns x).row, Whole c := by
  intro c hc
  simp only [D.row, rIns, List.mem_cons, List.not_mem_nil, or_false] at hc
  rcases hc with rfl | rfl
  all_goals first | exact .v _
theorem zeroIns : (VIns.mk 0 0) = VIns.mk 0 0 := rfl
abbrev dInsS (xs : List VIns) : D := .sl 2 (xs.map dIns)
theorem w_InsS (xs : List VIns) : Whole (.sl 2 (xs.map dIns)) := whole_map _ xs wh_Ins
theorem wh_InsS (xs : List VIns) : ∀ c ∈ (dInsS xs).row, Whole c := by intro c hc; simp only [D.row, List.mem_cons, List.not_mem_nil, or_false] at hc; subst hc; exact w_InsS xs
def SmInsS (xs : List VIns) : Prop := xs.length ≤ 1048576
structure VCtl where
  Traps : Int
  Post : Int
  Open : Bool
  deriving DecidableEq
abbrev rCtl (x : VCtl) : List D := [.v (.int .i64 x.Traps), .v (.int .i64 x.Post), .v (.bool x.Open)]
abbrev dCtl (x : VCtl) : D := .st (rCtl x)
theorem wh_Ctl (x : VCtl) : ∀ c ∈ (dCtl x).row, Whole c := by
  intro c hc
  simp only [D.row, rCtl, List.mem_cons, List.not_mem_nil, or_false] at hc
  rcases hc with rfl | rfl | rfl
  all_goals first | exact .v _
theorem zeroCtl : (VCtl.mk 0 0 false) = VCtl.mk 0 0 false := rfl
structure VExit where
  Kind : Int
  Page : Int
  Write : Bool
  N : Int
  deriving DecidableEq
abbrev rExit (x : VExit) : List D := [.v (.int .i64 x.Kind), .v (.int .i64 x.Page), .v (.bool x.Write), .v (.int .i64 x.N)]
abbrev dExit (x : VExit) : D := .st (rExit x)
theorem wh_Exit (x : VExit) : ∀ c ∈ (dExit x).row, Whole c := by
  intro c hc
  simp only [D.row, rExit, List.mem_cons, List.not_mem_nil, or_false] at hc
  rcases hc with rfl | rfl | rfl | rfl
  all_goals first | exact .v _
theorem zeroExit : (VExit.mk 0 0 false 0) = VExit.mk 0 0 false 0 := rfl
structure VGuest where
  Prog : List VIns
  A : Int
  Pc : Int
  Written : List VSlot
  Live : List VSlot
  Ctl : VCtl
  Pending : Int
  Exit : VExit
  Halted : Bool
  Seen : List Int
  deriving DecidableEq
abbrev rGuest (x : VGuest) : List D := [.sl 2 (x.Prog.map dIns), .v (.int .i64 x.A), .v (.int .i64 x.Pc), .sl 2 (x.Written.map dSlot), .sl 2 (x.Live.map dSlot), .v (.int .i64 x.Ctl.Traps), .v (.int .i64 x.Ctl.Post), .v (.bool x.Ctl.Open), .v (.int .i64 x.Pending), .v (.int .i64 x.Exit.Kind), .v (.int .i64 x.Exit.Page), .v (.bool x.Exit.Write), .v (.int .i64 x.Exit.N), .v (.bool x.Halted), .sl 1 (x.Seen.map dInt)]
abbrev dGuest (x : VGuest) : D := .st (rGuest x)
theorem wh_Guest (x : VGuest) : ∀ c ∈ (dGuest x).row, Whole c := by
  intro c hc
  simp only [D.row, rGuest, List.mem_cons, List.not_mem_nil, or_false] at hc
  rcases hc with rfl | rfl | rfl | rfl | rfl | rfl | rfl | rfl | rfl | rfl | rfl | rfl | rfl | rfl | rfl
  all_goals first | exact .v _ | exact w_InsS _ | exact w_IntS _ | exact w_SlotS _
def SmGuest (x : VGuest) : Prop := SmInsS x.Prog ∧ SmSlotS x.Written ∧ SmSlotS x.Live ∧ SmIntS x.Seen
theorem zeroGuest : (VGuest.mk [] 0 0 [] [] (VCtl.mk 0 0 false) 0 (VExit.mk 0 0 false 0) false []) = VGuest.mk [] 0 0 [] [] (VCtl.mk 0 0 false) 0 (VExit.mk 0 0 false 0) false [] := rfl
abbrev dGuestS (xs : List VGuest) : D := .sl 15 (xs.map dGuest)
theorem w_GuestS (xs : List VGuest) : Whole (.sl 15 (xs.map dGuest)) := whole_map _ xs wh_Guest
theorem wh_GuestS (xs : List VGuest) : ∀ c ∈ (dGuestS xs).row, Whole c := by intro c hc; simp only [D.row, List.mem_cons, List.not_mem_nil, or_false] at hc; subst hc; exact w_GuestS xs
def SmGuestS (xs : List VGuest) : Prop := xs.length ≤ 1048576 ∧ ∀ x ∈ xs, SmGuest x
structure VKept where
  Known : List Bool
  Slots : List VSlot
  deriving DecidableEq
abbrev rKept (x : VKept) : List D := [.sl 1 (x.Known.map dBool), .sl 2 (x.Slots.map dSlot)]
abbrev dKept (x : VKept) : D := .st (rKept x)
theorem wh_Kept (x : VKept) : ∀ c ∈ (dKept x).row, Whole c := by
  intro c hc
  simp only [D.row, rKept, List.mem_cons, List.not_mem_nil, or_false] at hc
  rcases hc with rfl | rfl
  all_goals first | exact w_BoolS _ | exact w_SlotS _
def SmKept (x : VKept) : Prop := SmBoolS x.Known ∧ SmSlotS x.Slots
theorem zeroKept : (VKept.mk [] []) = VKept.mk [] [] := rfl
abbrev dKeptS (xs : List VKept) : D := .sl 2 (xs.map dKept)
theorem w_KeptS (xs : List VKept) : Whole (.sl 2 (xs.map dKept)) := whole_map _ xs wh_Kept
theorem wh_KeptS (xs : List VKept) : ∀ c ∈ (dKeptS xs).row, Whole c := by intro c hc; simp only [D.row, List.mem_cons, List.not_mem_nil, or_false] at hc; subst hc; exact w_KeptS xs
def SmKeptS (xs : List VKept) : Prop := xs.length ≤ 1048576 ∧ ∀ x ∈ xs, SmKept x
structure VMon where
  Outer : List VSlot
  Out : List (List Int)
  Dirty : List Bool
  Guests : List VGuest
  Outs : List Int
  Pending : Int
  Traps : Int
  Tables : List VKept
  Own : Int
  deriving DecidableEq
abbrev rMon (x : VMon) : List D := [.sl 2 (x.Outer.map dSlot), .sl 1 (x.Out.map dIntS), .sl 1 (x.Dirty.map dBool), .sl 15 (x.Guests.map dGuest), .sl 1 (x.Outs.map dInt), .v (.int .i64 x.Pending), .v (.int .i64 x.Traps), .sl 2 (x.Tables.map dKept), .v (.int .i64 x.Own)]
abbrev dMon (x : VMon) : D := .st (rMon x)
theorem wh_Mon (x : VMon) : ∀ c ∈ (dMon x).row, Whole c := by
  intro c hc
  simp only [D.row, rMon, List.mem_cons, List.not_mem_nil, or_false] at hc
  rcases hc with rfl | rfl | rfl | rfl | rfl | rfl | rfl | rfl | rfl
  all_goals first | exact .v _ | exact w_BoolS _ | exact w_GuestS _ | exact w_IntS _ | exact w_IntSS _ | exact w_KeptS _ | exact w_SlotS _
def SmMon (x : VMon) : Prop := SmSlotS x.Outer ∧ SmIntSS x.Out ∧ SmBoolS x.Dirty ∧ SmGuestS x.Guests ∧ SmIntS x.Outs ∧ SmKeptS x.Tables
theorem zeroMon : (VMon.mk [] [] [] [] [] 0 0 [] 0) = VMon.mk [] [] [] [] [] 0 0 [] 0 := rfl
abbrev dMonS (xs : List VMon) : D := .sl 9 (xs.map dMon)
theorem w_MonS (xs : List VMon) : Whole (.sl 9 (xs.map dMon)) := whole_map _ xs wh_Mon
theorem wh_MonS (xs : List VMon) : ∀ c ∈ (dMonS xs).row, Whole c := by intro c hc; simp only [D.row, List.mem_cons, List.not_mem_nil, or_false] at hc; subst hc; exact w_MonS xs
def SmMonS (xs : List VMon) : Prop := xs.length ≤ 1048576 ∧ ∀ x ∈ xs, SmMon x
structure VEntry where
  Tag : Int
  Page : Int
  Host : Int
  Rights : Int
  deriving DecidableEq
abbrev rEntry (x : VEntry) : List D := [.v (.int .i64 x.Tag), .v (.int .i64 x.Page), .v (.int .i64 x.Host), .v (.int .i64 x.Rights)]
abbrev dEntry (x : VEntry) : D := .st (rEntry x)
theorem wh_Entry (x : VEntry) : ∀ c ∈ (dEntry x).row, Whole c := by
  intro c hc
  simp only [D.row, rEntry, List.mem_cons, List.not_mem_nil, or_false] at hc
  rcases hc with rfl | rfl | rfl | rfl
  all_goals first | exact .v _
theorem zeroEntry : (VEntry.mk 0 0 0 0) = VEntry.mk 0 0 0 0 := rfl
abbrev dEntryS (xs : List VEntry) : D := .sl 4 (xs.map dEntry)
theorem w_EntryS (xs : List VEntry) : Whole (.sl 4 (xs.map dEntry)) := whole_map _ xs wh_Entry
theorem wh_EntryS (xs : List VEntry) : ∀ c ∈ (dEntryS xs).row, Whole c := by intro c hc; simp only [D.row, List.mem_cons, List.not_mem_nil, or_false] at hc; subst hc; exact w_EntryS xs
def SmEntryS (xs : List VEntry) : Prop := xs.length ≤ 1048576
structure VHost where
  Memory : List (List Int)
  Mons : List VMon
  Buffer : List VEntry
  IoBuffer : List VEntry
  deriving DecidableEq
abbrev rHost (x : VHost) : List D := [.sl 1 (x.Memory.map dIntS), .sl 9 (x.Mons.map dMon), .sl 4 (x.Buffer.map dEntry), .sl 4 (x.IoBuffer.map dEntry)]
abbrev dHost (x : VHost) : D := .st (rHost x)
theorem wh_Host (x : VHost) : ∀ c ∈ (dHost x).row, Whole c := by
  intro c hc
  simp only [D.row, rHost, List.mem_cons, List.not_mem_nil, or_false] at hc
  rcases hc with rfl | rfl | rfl | rfl
  all_goals first | exact w_EntryS _ | exact w_IntSS _ | exact w_MonS _
def SmHost (x : VHost) : Prop := SmIntSS x.Memory ∧ SmMonS x.Mons ∧ SmEntryS x.Buffer ∧ SmEntryS x.IoBuffer
theorem zeroHost : (VHost.mk [] [] [] []) = VHost.mk [] [] [] [] := rfl
structure VMove where
  M : Int
  Have : List (List Int)
  deriving DecidableEq
abbrev rMove (x : VMove) : List D := [.v (.int .i64 x.M), .sl 1 (x.Have.map dIntS)]
abbrev dMove (x : VMove) : D := .st (rMove x)
theorem wh_Move (x : VMove) : ∀ c ∈ (dMove x).row, Whole c := by
  intro c hc
  simp only [D.row, rMove, List.mem_cons, List.not_mem_nil, or_false] at hc
  rcases hc with rfl | rfl
  all_goals first | exact .v _ | exact w_IntSS _
def SmMove (x : VMove) : Prop := SmIntSS x.Have
theorem zeroMove : (VMove.mk 0 []) = VMove.mk 0 [] := rfl
structure VBare where
  Memory : List (List Int)
  Guests : List VGuest
  Outs : List Int
  Pending : Int
  deriving DecidableEq
abbrev rBare (x : VBare) : List D := [.sl 1 (x.Memory.map dIntS), .sl 15 (x.Guests.map dGuest), .sl 1 (x.Outs.map dInt), .v (.int .i64 x.Pending)]
abbrev dBare (x : VBare) : D := .st (rBare x)
theorem wh_Bare (x : VBare) : ∀ c ∈ (dBare x).row, Whole c := by
  intro c hc
  simp only [D.row, rBare, List.mem_cons, List.not_mem_nil, or_false] at hc
  rcases hc with rfl | rfl | rfl | rfl
  all_goals first | exact .v _ | exact w_GuestS _ | exact w_IntS _ | exact w_IntSS _
def SmBare (x : VBare) : Prop := SmIntSS x.Memory ∧ SmGuestS x.Guests ∧ SmIntS x.Outs
theorem zeroBare : (VBare.mk [] [] [] 0) = VBare.mk [] [] [] 0 := rfl
abbrev dBareS (xs : List VBare) : D := .sl 4 (xs.map dBare)
theorem w_BareS (xs : List VBare) : Whole (.sl 4 (xs.map dBare)) := whole_map _ xs wh_Bare
theorem wh_BareS (xs : List VBare) : ∀ c ∈ (dBareS xs).row, Whole c := by intro c hc; simp only [D.row, List.mem_cons, List.not_mem_nil, or_false] at hc; subst hc; exact w_BareS xs
def SmBareS (xs : List VBare) : Prop := xs.length ≤ 1048576 ∧ ∀ x ∈ xs, SmBare x
structure VSaved where
  Mons : List VBare
  Traps : List Int
  Own : List Int
  deriving DecidableEq
abbrev rSaved (x : VSaved) : List D := [.sl 4 (x.Mons.map dBare), .sl 1 (x.Traps.map dInt), .sl 1 (x.Own.map dInt)]
abbrev dSaved (x : VSaved) : D := .st (rSaved x)
theorem wh_Saved (x : VSaved) : ∀ c ∈ (dSaved x).row, Whole c := by
  intro c hc
  simp only [D.row, rSaved, List.mem_cons, List.not_mem_nil, or_false] at hc
  rcases hc with rfl | rfl | rfl
  all_goals first | exact w_BareS _ | exact w_IntS _
def SmSaved (x : VSaved) : Prop := SmBareS x.Mons ∧ SmIntS x.Traps ∧ SmIntS x.Own
theorem zeroSaved : (VSaved.mk [] [] []) = VSaved.mk [] [] [] := rfl
def szIntS (xs : List Int) (n : Int) : Int := if n - xs.length < 0 then -1 else n - xs.length
theorem szIntS_ok (xs : List Int) (n : Int) (h : 0 ≤ szIntS xs n) : szIntS xs n ≤ n ∧ (n ≤ 1048576 → SmIntS xs) := by
  unfold szIntS at h ⊢
  split at h
  · omega
  · rename_i h0
    rw [if_neg h0]
    exact ⟨by omega, fun hn => by unfold SmIntS; omega⟩
def szIntSS (xs : List (List Int)) (n : Int) : Int := if n - xs.length < 0 then -1 else szFold szIntS xs (n - xs.length)
theorem szIntSS_ok (xs : List (List Int)) (n : Int) (h : 0 ≤ szIntSS xs n) : szIntSS xs n ≤ n ∧ (n ≤ 1048576 → SmIntSS xs) := by
  unfold szIntSS at h ⊢
  split at h
  · omega
  · rename_i h0
    rw [if_neg h0]
    obtain ⟨h1, h2⟩ := szFold_ok szIntS_ok xs _ h
    exact ⟨by omega, fun hn => ⟨by omega, h2 (by omega)⟩⟩
def szSlotS (xs : List VSlot) (n : Int) : Int := if n - xs.length < 0 then -1 else n - xs.length
theorem szSlotS_ok (xs : List VSlot) (n : Int) (h : 0 ≤ szSlotS xs n) : szSlotS xs n ≤ n ∧ (n ≤ 1048576 → SmSlotS xs) := by
  unfold szSlotS at h ⊢
  split at h
  · omega
  · rename_i h0
    rw [if_neg h0]
    exact ⟨by omega, fun hn => by unfold SmSlotS; omega⟩
def szBoolS (xs : List Bool) (n : Int) : Int := if n - xs.length < 0 then -1 else n - xs.length
theorem szBoolS_ok (xs : List Bool) (n : Int) (h : 0 ≤ szBoolS xs n) : szBoolS xs n ≤ n ∧ (n ≤ 1048576 → SmBoolS xs) := by
  unfold szBoolS at h ⊢
  split at h
  · omega
  · rename_i h0
    rw [if_neg h0]
    exact ⟨by omega, fun hn => by unfold SmBoolS; omega⟩
def szInsS (xs : List VIns) (n : Int) : Int := if n - xs.length < 0 then -1 else n - xs.length
theorem szInsS_ok (xs : List VIns) (n : Int) (h : 0 ≤ szInsS xs n) : szInsS xs n ≤ n ∧ (n ≤ 1048576 → SmInsS xs) := by
  unfold szInsS at h ⊢
  split at h
  · omega
  · rename_i h0
    rw [if_neg h0]
    exact ⟨by omega, fun hn => by unfold SmInsS; omega⟩
def szGuest (x : VGuest) (n : Int) : Int := szThen [szInsS x.Prog, szSlotS x.Written, szSlotS x.Live, szIntS x.Seen] n
theorem szGuest_ok (x : VGuest) (n : Int) (h : 0 ≤ szGuest x n) : szGuest x n ≤ n ∧ (n ≤ 1048576 → SmGuest x) := by
  unfold szGuest at h ⊢
  simp only [szThen] at h ⊢
  have e0 := szInsS_ok x.Prog (n)
  have e1 := szSlotS_ok x.Written (szInsS x.Prog (n))
  have e2 := szSlotS_ok x.Live (szSlotS x.Written (szInsS x.Prog (n)))
  have e3 := szIntS_ok x.Seen (szSlotS x.Live (szSlotS x.Written (szInsS x.Prog (n))))
  repeat' split at h
  all_goals (try omega)
  simp only [*, if_false]
  simp only [Int.not_lt] at *
  refine ⟨by omega, fun hn => ⟨by exact (e0 (by omega)).2 (by omega), by exact (e1 (by omega)).2 (by omega), by exact (e2 (by omega)).2 (by omega), by exact (e3 (by omega)).2 (by omega)⟩⟩
def szGuestS (xs : List VGuest) (n : Int) : Int := if n - xs.length < 0 then -1 else szFold szGuest xs (n - xs.length)
theorem szGuestS_ok (xs : List VGuest) (n : Int) (h : 0 ≤ szGuestS xs n) : szGuestS xs n ≤ n ∧ (n ≤ 1048576 → SmGuestS xs) := by
  unfold szGuestS at h ⊢
  split at h
  · omega
  · rename_i h0
    rw [if_neg h0]
    obtain ⟨h1, h2⟩ := szFold_ok szGuest_ok xs _ h
    exact ⟨by omega, fun hn => ⟨by omega, h2 (by omega)⟩⟩
def szKept (x : VKept) (n : Int) : Int := szThen [szBoolS x.Known, szSlotS x.Slots] n
theorem szKept_ok (x : VKept) (n : Int) (h : 0 ≤ szKept x n) : szKept x n ≤ n ∧ (n ≤ 1048576 → SmKept x) := by
  unfold szKept at h ⊢
  simp only [szThen] at h ⊢
  have e0 := szBoolS_ok x.Known (n)
  have e1 := szSlotS_ok x.Slots (szBoolS x.Known (n))
  repeat' split at h
  all_goals (try omega)
  simp only [*, if_false]
  simp only [Int.not_lt] at *
  refine ⟨by omega, fun hn => ⟨by exact (e0 (by omega)).2 (by omega), by exact (e1 (by omega)).2 (by omega)⟩⟩
def szKeptS (xs : List VKept) (n : Int) : Int := if n - xs.length < 0 then -1 else szFold szKept xs (n - xs.length)
theorem szKeptS_ok (xs : List VKept) (n : Int) (h : 0 ≤ szKeptS xs n) : szKeptS xs n ≤ n ∧ (n ≤ 1048576 → SmKeptS xs) := by
  unfold szKeptS at h ⊢
  split at h
  · omega
  · rename_i h0
    rw [if_neg h0]
    obtain ⟨h1, h2⟩ := szFold_ok szKept_ok xs _ h
    exact ⟨by omega, fun hn => ⟨by omega, h2 (by omega)⟩⟩
def szMon (x : VMon) (n : Int) : Int := szThen [szSlotS x.Outer, szIntSS x.Out, szBoolS x.Dirty, szGuestS x.Guests, szIntS x.Outs, szKeptS x.Tables] n
theorem szMon_ok (x : VMon) (n : Int) (h : 0 ≤ szMon x n) : szMon x n ≤ n ∧ (n ≤ 1048576 → SmMon x) := by
  unfold szMon at h ⊢
  simp only [szThen] at h ⊢
  have e0 := szSlotS_ok x.Outer (n)
  have e1 := szIntSS_ok x.Out (szSlotS x.Outer (n))
  have e2 := szBoolS_ok x.Dirty (szIntSS x.Out (szSlotS x.Outer (n)))
  have e3 := szGuestS_ok x.Guests (szBoolS x.Dirty (szIntSS x.Out (szSlotS x.Outer (n))))
  have e4 := szIntS_ok x.Outs (szGuestS x.Guests (szBoolS x.Dirty (szIntSS x.Out (szSlotS x.Outer (n)))))
  have e5 := szKeptS_ok x.Tables (szIntS x.Outs (szGuestS x.Guests (szBoolS x.Dirty (szIntSS x.Out (szSlotS x.Outer (n))))))
  repeat' split at h
  all_goals (try omega)
  simp only [*, if_false]
  simp only [Int.not_lt] at *
  refine ⟨by omega, fun hn => ⟨by exact (e0 (by omega)).2 (by omega), by exact (e1 (by omega)).2 (by omega), by exact (e2 (by omega)).2 (by omega), by exact (e3 (by omega)).2 (by omega), by exact (e4 (by omega)).2 (by omega), by exact (e5 (by omega)).2 (by omega)⟩⟩
def szMonS (xs : List VMon) (n : Int) : Int := if n - xs.length < 0 then -1 else szFold szMon xs (n - xs.length)
theorem szMonS_ok (xs : List VMon) (n : Int) (h : 0 ≤ szMonS xs n) : szMonS xs n ≤ n ∧ (n ≤ 1048576 → SmMonS xs) := by
  unfold szMonS at h ⊢
  split at h
  · omega
  · rename_i h0
    rw [if_neg h0]
    obtain ⟨h1, h2⟩ := szFold_ok szMon_ok xs _ h
    exact ⟨by omega, fun hn => ⟨by omega, h2 (by omega)⟩⟩
def szEntryS (xs : List VEntry) (n : Int) : Int := if n - xs.length < 0 then -1 else n - xs.length
theorem szEntryS_ok (xs : List VEntry) (n : Int) (h : 0 ≤ szEntryS xs n) : szEntryS xs n ≤ n ∧ (n ≤ 1048576 → SmEntryS xs) := by
  unfold szEntryS at h ⊢
  split at h
  · omega
  · rename_i h0
    rw [if_neg h0]
    exact ⟨by omega, fun hn => by unfold SmEntryS; omega⟩
def szHost (x : VHost) (n : Int) : Int := szThen [szIntSS x.Memory, szMonS x.Mons, szEntryS x.Buffer, szEntryS x.IoBuffer] n
theorem szHost_ok (x : VHost) (n : Int) (h : 0 ≤ szHost x n) : szHost x n ≤ n ∧ (n ≤ 1048576 → SmHost x) := by
  unfold szHost at h ⊢
  simp only [szThen] at h ⊢
  have e0 := szIntSS_ok x.Memory (n)
  have e1 := szMonS_ok x.Mons (szIntSS x.Memory (n))
  have e2 := szEntryS_ok x.Buffer (szMonS x.Mons (szIntSS x.Memory (n)))
  have e3 := szEntryS_ok x.IoBuffer (szEntryS x.Buffer (szMonS x.Mons (szIntSS x.Memory (n))))
  repeat' split at h
  all_goals (try omega)
  simp only [*, if_false]
  simp only [Int.not_lt] at *
  refine ⟨by omega, fun hn => ⟨by exact (e0 (by omega)).2 (by omega), by exact (e1 (by omega)).2 (by omega), by exact (e2 (by omega)).2 (by omega), by exact (e3 (by omega)).2 (by omega)⟩⟩
def szMove (x : VMove) (n : Int) : Int := szThen [szIntSS x.Have] n
theorem szMove_ok (x : VMove) (n : Int) (h : 0 ≤ szMove x n) : szMove x n ≤ n ∧ (n ≤ 1048576 → SmMove x) := by
  unfold szMove at h ⊢
  simp only [szThen] at h ⊢
  have e0 := szIntSS_ok x.Have (n)
  by_cases h1 : szIntSS x.Have (n) < 0
  · rw [if_pos h1] at h; omega
  · rw [if_neg h1] at h ⊢
    exact e0 h
def szBare (x : VBare) (n : Int) : Int := szThen [szIntSS x.Memory, szGuestS x.Guests, szIntS x.Outs] n
theorem szBare_ok (x : VBare) (n : Int) (h : 0 ≤ szBare x n) : szBare x n ≤ n ∧ (n ≤ 1048576 → SmBare x) := by
  unfold szBare at h ⊢
  simp only [szThen] at h ⊢
  have e0 := szIntSS_ok x.Memory (n)
  have e1 := szGuestS_ok x.Guests (szIntSS x.Memory (n))
  have e2 := szIntS_ok x.Outs (szGuestS x.Guests (szIntSS x.Memory (n)))
  repeat' split at h
  all_goals (try omega)
  simp only [*, if_false]
  simp only [Int.not_lt] at *
  refine ⟨by omega, fun hn => ⟨by exact (e0 (by omega)).2 (by omega), by exact (e1 (by omega)).2 (by omega), by exact (e2 (by omega)).2 (by omega)⟩⟩
def szBareS (xs : List VBare) (n : Int) : Int := if n - xs.length < 0 then -1 else szFold szBare xs (n - xs.length)
theorem szBareS_ok (xs : List VBare) (n : Int) (h : 0 ≤ szBareS xs n) : szBareS xs n ≤ n ∧ (n ≤ 1048576 → SmBareS xs) := by
  unfold szBareS at h ⊢
  split at h
  · omega
  · rename_i h0
    rw [if_neg h0]
    obtain ⟨h1, h2⟩ := szFold_ok szBare_ok xs _ h
    exact ⟨by omega, fun hn => ⟨by omega, h2 (by omega)⟩⟩
def szSaved (x : VSaved) (n : Int) : Int := szThen [szBareS x.Mons, szIntS x.Traps, szIntS x.Own] n
theorem szSaved_ok (x : VSaved) (n : Int) (h : 0 ≤ szSaved x n) : szSaved x n ≤ n ∧ (n ≤ 1048576 → SmSaved x) := by
  unfold szSaved at h ⊢
  simp only [szThen] at h ⊢
  have e0 := szBareS_ok x.Mons (n)
  have e1 := szIntS_ok x.Traps (szBareS x.Mons (n))
  have e2 := szIntS_ok x.Own (szIntS x.Traps (szBareS x.Mons (n)))
  repeat' split at h
  all_goals (try omega)
  simp only [*, if_false]
  simp only [Int.not_lt] at *
  refine ⟨by omega, fun hn => ⟨by exact (e0 (by omega)).2 (by omega), by exact (e1 (by omega)).2 (by omega), by exact (e2 (by omega)).2 (by omega)⟩⟩
theorem szIntS_le (x : List Int) (n : Int) (h : 0 ≤ n) : szIntS x n ≤ n := by
  by_cases g : 0 ≤ szIntS x n
  · exact (szIntS_ok x n g).1
  · omega
theorem szIntSS_le (x : List (List Int)) (n : Int) (h : 0 ≤ n) : szIntSS x n ≤ n := by
  by_cases g : 0 ≤ szIntSS x n
  · exact (szIntSS_ok x n g).1
  · omega
theorem szSlotS_le (x : List VSlot) (n : Int) (h : 0 ≤ n) : szSlotS x n ≤ n := by
  by_cases g : 0 ≤ szSlotS x n
  · exact (szSlotS_ok x n g).1
  · omega
theorem szBoolS_le (x : List Bool) (n : Int) (h : 0 ≤ n) : szBoolS x n ≤ n := by
  by_cases g : 0 ≤ szBoolS x n
  · exact (szBoolS_ok x n g).1
  · omega
theorem szInsS_le (x : List VIns) (n : Int) (h : 0 ≤ n) : szInsS x n ≤ n := by
  by_cases g : 0 ≤ szInsS x n
  · exact (szInsS_ok x n g).1
  · omega
theorem szGuest_le (x : VGuest) (n : Int) (h : 0 ≤ n) : szGuest x n ≤ n := by
  by_cases g : 0 ≤ szGuest x n
  · exact (szGuest_ok x n g).1
  · omega
theorem szGuestS_le (x : List VGuest) (n : Int) (h : 0 ≤ n) : szGuestS x n ≤ n := by
  by_cases g : 0 ≤ szGuestS x n
  · exact (szGuestS_ok x n g).1
  · omega
theorem szKept_le (x : VKept) (n : Int) (h : 0 ≤ n) : szKept x n ≤ n := by
  by_cases g : 0 ≤ szKept x n
  · exact (szKept_ok x n g).1
  · omega
theorem szKeptS_le (x : List VKept) (n : Int) (h : 0 ≤ n) : szKeptS x n ≤ n := by
  by_cases g : 0 ≤ szKeptS x n
  · exact (szKeptS_ok x n g).1
  · omega
theorem szMon_le (x : VMon) (n : Int) (h : 0 ≤ n) : szMon x n ≤ n := by
  by_cases g : 0 ≤ szMon x n
  · exact (szMon_ok x n g).1
  · omega
theorem szMonS_le (x : List VMon) (n : Int) (h : 0 ≤ n) : szMonS x n ≤ n := by
  by_cases g : 0 ≤ szMonS x n
  · exact (szMonS_ok x n g).1
  · omega
theorem szEntryS_le (x : List VEntry) (n : Int) (h : 0 ≤ n) : szEntryS x n ≤ n := by
  by_cases g : 0 ≤ szEntryS x n
  · exact (szEntryS_ok x n g).1
  · omega
theorem szHost_le (x : VHost) (n : Int) (h : 0 ≤ n) : szHost x n ≤ n := by
  by_cases g : 0 ≤ szHost x n
  · exact (szHost_ok x n g).1
  · omega
theorem szMove_le (x : VMove) (n : Int) (h : 0 ≤ n) : szMove x n ≤ n := by
  by_cases g : 0 ≤ szMove x n
  · exact (szMove_ok x n g).1
  · omega
theorem szBare_le (x : VBare) (n : Int) (h : 0 ≤ n) : szBare x n ≤ n := by
  by_cases g : 0 ≤ szBare x n
  · exact (szBare_ok x n g).1
  · omega
theorem szBareS_le (x : List VBare) (n : Int) (h : 0 ≤ n) : szBareS x n ≤ n := by
  by_cases g : 0 ≤ szBareS x n
  · exact (szBareS_ok x n g).1
  · omega
theorem szSaved_le (x : VSaved) (n : Int) (h : 0 ≤ n) : szSaved x n ≤ n := by
  by_cases g : 0 ≤ szSaved x n
  · exact (szSaved_ok x n g).1
  · omega
theorem eq_Slot (x y : VSlot) : x = y ↔ x.Page = y.Page ∧ x.Rights = y.Rights := by cases x; cases y; simp
theorem eq_Ins (x y : VIns) : x = y ↔ x.Op = y.Op ∧ x.X = y.X := by cases x; cases y; simp
theorem eq_Ctl (x y : VCtl) : x = y ↔ x.Traps = y.Traps ∧ x.Post = y.Post ∧ x.Open = y.Open := by cases x; cases y; simp
theorem eq_Exit (x y : VExit) : x = y ↔ x.Kind = y.Kind ∧ x.Page = y.Page ∧ x.Write = y.Write ∧ x.N = y.N := by cases x; cases y; simp
theorem eq_Guest (x y : VGuest) : x = y ↔ x.Prog = y.Prog ∧ x.A = y.A ∧ x.Pc = y.Pc ∧ x.Written = y.Written ∧ x.Live = y.Live ∧ x.Ctl = y.Ctl ∧ x.Pending = y.Pending ∧ x.Exit = y.Exit ∧ x.Halted = y.Halted ∧ x.Seen = y.Seen := by cases x; cases y; simp
theorem eq_Kept (x y : VKept) : x = y ↔ x.Known = y.Known ∧ x.Slots = y.Slots := by cases x; cases y; simp
theorem eq_Mon (x y : VMon) : x = y ↔ x.Outer = y.Outer ∧ x.Out = y.Out ∧ x.Dirty = y.Dirty ∧ x.Guests = y.Guests ∧ x.Outs = y.Outs ∧ x.Pending = y.Pending ∧ x.Traps = y.Traps ∧ x.Tables = y.Tables ∧ x.Own = y.Own := by cases x; cases y; simp
theorem eq_Entry (x y : VEntry) : x = y ↔ x.Tag = y.Tag ∧ x.Page = y.Page ∧ x.Host = y.Host ∧ x.Rights = y.Rights := by cases x; cases y; simp
theorem eq_Host (x y : VHost) : x = y ↔ x.Memory = y.Memory ∧ x.Mons = y.Mons ∧ x.Buffer = y.Buffer ∧ x.IoBuffer = y.IoBuffer := by cases x; cases y; simp
theorem eq_Move (x y : VMove) : x = y ↔ x.M = y.M ∧ x.Have = y.Have := by cases x; cases y; simp
theorem eq_Bare (x y : VBare) : x = y ↔ x.Memory = y.Memory ∧ x.Guests = y.Guests ∧ x.Outs = y.Outs ∧ x.Pending = y.Pending := by cases x; cases y; simp
theorem eq_Saved (x y : VSaved) : x = y ↔ x.Mons = y.Mons ∧ x.Traps = y.Traps ∧ x.Own = y.Own := by cases x; cases y; simp
end Go.Proofs.Ytldollgpolklpaa.T

