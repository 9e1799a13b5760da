/- Hosts, machines and moves as plain data. PRINTED by gen2.py out of spec_h.py. -/
import Derived.Test.YteelmdpahpggkaaGreatRnp
import Derived.Test.YteelmdpahpggkaaGreatProg
namespace Go.Proofs.YteelmdpahpggkaaGreat.T
open Go
set_option linter.unusedVariables false
set_option linter.unusedSimpArgs false
set_option maxRecDepth 100000
set_option maxHeartbeats 1000000

theorem at_of {α : Type} {xs : List α} {k : Nat} (h : k < xs.length) : ∃ x, xs[k]? = some x := ⟨xs[k], List.getElem?_eq_getElem h⟩
theorem eq_step {α : Type} {xs ys : List α} {k : Nat} {x : α} (h : xs.take k = ys.take k) (hx : xs[k]? = some x) (hy : ys[k]? = some x) : xs.take (k + 1) = ys.take (k + 1) := by
  rw [List.take_add_one, List.take_add_one, h, hx, hy]
theorem eq_off {α : Type} {xs ys : List α} {k : Nat} {x y : α} (hx : xs[k]? = some x) (hy : ys[k]? = some y) (h : x ≠ y) : xs ≠ ys := fun e => by
  subst e
  rw [hx] at hy
  exact h (Option.some.inj hy)
theorem eq_all {α : Type} {xs ys : List α} {k : Nat} (hl : xs.length = ys.length) (h : xs.take k = ys.take k) (hk : xs.length ≤ k) : xs = ys := by
  rwa [List.take_of_length_le hk, List.take_of_length_le (by omega)] at h
/-- A size that is reckoned off, element by element; -1 where it falls short. -/
def szFold {α : Type} (f : α → Int → Int) : List α → Int → Int
  | [], n => n
  | x :: l, n => if f x n < 0 then -1 else szFold f l (f x n)
def szThen : List (Int → Int) → Int → Int
  | [], n => n
  | f :: l, n => if f n < 0 then -1 else szThen l (f n)
theorem szFold_ok {α : Type} {f : α → Int → Int} {S : α → Prop} (hf : ∀ x n, 0 ≤ f x n → f x n ≤ n ∧ (n ≤ 1048576 → S x)) : ∀ (xs : List α) (n : Int), 0 ≤ szFold f xs n → szFold f xs n ≤ n ∧ (n ≤ 1048576 → ∀ x ∈ xs, S x)
  | [], n, h => ⟨by simp [szFold], fun _ x hx => by cases hx⟩
  | x :: l, n, h => by
    unfold szFold at h ⊢
    split at h
    · omega
    · rename_i h0
      rw [if_neg h0]
      have h1 := hf x n (by omega)
      have h2 := szFold_ok hf l _ h
      refine ⟨by omega, fun hn y hy => ?_⟩
      rcases List.mem_cons.1 hy with rfl | hy
      · exact h1.2 hn
      · exact h2.2 (by omega) y hy
theorem szFold_drop {α : Type} {f : α → Int → Int} {xs : List α} {k : Nat} {x : α} (h : xs[k]? = some x) (n : Int) : szFold f (xs.drop k) n = if f x n < 0 then -1 else szFold f (xs.drop (k + 1)) (f x n) := by
  have hk := (List.getElem?_eq_some_iff.1 h).1
  rw [List.drop_eq_getElem_cons hk]
  have : xs[k] = x := (List.getElem?_eq_some_iff.1 h).2
  rw [this]
  rfl
abbrev dInt (x : Int) : D := .v (.int .i64 x)
abbrev dIntS (xs : List Int) : D := .sl 1 (xs.map dInt)
def SmIntS (xs : List Int) : Prop := xs.length ≤ 1048576
abbrev dIntSS (xs : List (List Int)) : D := .sl 1 (xs.map dIntS)
def SmIntSS (xs : List (List Int)) : Prop := xs.length ≤ 1048576 ∧ ∀ x ∈ xs, SmIntS x
structure VSlot where
  Page : Int
  Rights : Int
  deriving DecidableEq
abbrev rSlot (x : VSlot) : List D := [.v (.int .i64 x.Page), .v (.int .i64 x.Rights)]
abbrev dSlot (x : VSlot) : D := .st (rSlot x)
abbrev dSlotS (xs : List VSlot) : D := .sl 2 (xs.map dSlot)
def SmSlotS (xs : List VSlot) : Prop := xs.length ≤ 1048576
abbrev dBool (x : Bool) : D := .v (.bool x)
abbrev dBoolS (xs : List Bool) : D := .sl 1 (xs.map dBool)
def SmBoolS (xs : List Bool) : Prop := xs.length ≤ 1048576
structure VIns where
  Op : Int
  X : Int
  deriving DecidableEq
abbrev rIns (x : VIns) : List D := [.v (.int .i64 x.Op), .v (.int .i64 x.X)]
abbrev dIns (x : VIns) : D := .st (rIns x)
abbrev dInsS (xs : List VIns) : D := .sl 2 (xs.map dIns)
def SmInsS (xs : List VIns) : Prop := xs.length ≤ 1048576
structure VCtl where
  Traps : Int
  Post : Int
  Open : Bool
  deriving DecidableEq
abbrev rCtl (x : VCtl) : List D := [.v (.int .i64 x.Traps), .v (.int .i64 x.Post), .v (.bool x.Open)]
structure VExit where
  Kind : Int
  Page : Int
  Write : Bool
  N : Int
  deriving DecidableEq
abbrev rExit (x : VExit) : List D := [.v (.int .i64 x.Kind), .v (.int .i64 x.Page), .v (.bool x.Write), .v (.int .i64 x.N)]
structure VGuest where
  Prog : List VIns
  A : Int
  Pc : Int
  Written : List VSlot
  Live : List VSlot
  Ctl : VCtl
  Pending : Int
  Exit : VExit
  Halted : Bool
  Seen : List Int
  deriving DecidableEq
abbrev rGuest (x : VGuest) : List D := [.sl 2 (x.Prog.map dIns), .v (.int .i64 x.A), .v (.int .i64 x.Pc), .sl 2 (x.Written.map dSlot), .sl 2 (x.Live.map dSlot), .v (.int .i64 x.Ctl.Traps), .v (.int .i64 x.Ctl.Post), .v (.bool x.Ctl.Open), .v (.int .i64 x.Pending), .v (.int .i64 x.Exit.Kind), .v (.int .i64 x.Exit.Page), .v (.bool x.Exit.Write), .v (.int .i64 x.Exit.N), .v (.bool x.Halted), .sl 1 (x.Seen.map dInt)]
abbrev dGuest (x : VGuest) : D := .st (rGuest x)
def SmGuest (x : VGuest) : Prop := SmInsS x.Prog ∧ SmSlotS x.Written ∧ SmSlotS x.Live ∧ SmIntS x.Seen
abbrev dGuestS (xs : List VGuest) : D := .sl 15 (xs.map dGuest)
def SmGuestS (xs : List VGuest) : Prop := xs.length ≤ 1048576 ∧ ∀ x ∈ xs, SmGuest x
structure VKept where
  Known : List Bool
  Slots : List VSlot
  deriving DecidableEq
abbrev rKept (x : VKept) : List D := [.sl 1 (x.Known.map dBool), .sl 2 (x.Slots.map dSlot)]
abbrev dKept (x : VKept) : D := .st (rKept x)
def SmKept (x : VKept) : Prop := SmBoolS x.Known ∧ SmSlotS x.Slots
abbrev dKeptS (xs : List VKept) : D := .sl 2 (xs.map dKept)
def SmKeptS (xs : List VKept) : Prop := xs.length ≤ 1048576 ∧ ∀ x ∈ xs, SmKept x
structure VMon where
  Outer : List VSlot
  Out : List (List Int)
  Dirty : List Bool
  Guests : List VGuest
  Outs : List Int
  Pending : Int
  Traps : Int
  Tables : List VKept
  Own : Int
  deriving DecidableEq
abbrev rMon (x : VMon) : List D := [.sl 2 (x.Outer.map dSlot), .sl 1 (x.Out.map dIntS), .sl 1 (x.Dirty.map dBool), .sl 15 (x.Guests.map dGuest), .sl 1 (x.Outs.map dInt), .v (.int .i64 x.Pending), .v (.int .i64 x.Traps), .sl 2 (x.Tables.map dKept), .v (.int .i64 x.Own)]
abbrev dMon (x : VMon) : D := .st (rMon x)
def SmMon (x : VMon) : Prop := SmSlotS x.Outer ∧ SmIntSS x.Out ∧ SmBoolS x.Dirty ∧ SmGuestS x.Guests ∧ SmIntS x.Outs ∧ SmKeptS x.Tables
abbrev dMonS (xs : List VMon) : D := .sl 9 (xs.map dMon)
def SmMonS (xs : List VMon) : Prop := xs.length ≤ 1048576 ∧ ∀ x ∈ xs, SmMon x
structure VEntry where
  Tag : Int
  Page : Int
  Host : Int
  Rights : Int
  deriving DecidableEq
abbrev rEntry (x : VEntry) : List D := [.v (.int .i64 x.Tag), .v (.int .i64 x.Page), .v (.int .i64 x.Host), .v (.int .i64 x.Rights)]
abbrev dEntry (x : VEntry) : D := .st (rEntry x)
abbrev dEntryS (xs : List VEntry) : D := .sl 4 (xs.map dEntry)
def SmEntryS (xs : List VEntry) : Prop := xs.length ≤ 1048576
structure VHost where
  Memory : List (List Int)
  Mons : List VMon
  Buffer : List VEntry
  IoBuffer : List VEntry
  deriving DecidableEq
abbrev rHost (x : VHost) : List D := [.sl 1 (x.Memory.map dIntS), .sl 9 (x.Mons.map dMon), .sl 4 (x.Buffer.map dEntry), .sl 4 (x.IoBuffer.map dEntry)]
def SmHost (x : VHost) : Prop := SmIntSS x.Memory ∧ SmMonS x.Mons ∧ SmEntryS x.Buffer ∧ SmEntryS x.IoBuffer
structure VMove where
  M : Int
  Have : List (List Int)
  deriving DecidableEq
abbrev rMove (x : VMove) : List D := [.v (.int .i64 x.M), .sl 1 (x.Have.map dIntS)]
def SmMove (x : VMove) : Prop := SmIntSS x.Have
structure VBare where
  Memory : List (List Int)
  Guests : List VGuest
  Outs : List Int
  Pending : Int
  deriving DecidableEq
def SmBare (x : VBare) : Prop := SmIntSS x.Memory ∧ SmGuestS x.Guests ∧ SmIntS x.Outs
def SmBareS (xs : List VBare) : Prop := xs.length ≤ 1048576 ∧ ∀ x ∈ xs, SmBare x
structure VSaved where
  Mons : List VBare
  Traps : List Int
  Own : List Int
  deriving DecidableEq
def SmSaved (x : VSaved) : Prop := SmBareS x.Mons ∧ SmIntS x.Traps ∧ SmIntS x.Own
structure VTold where
  Ok : Bool
  N : Int
  deriving DecidableEq
def SmToldS (xs : List VTold) : Prop := xs.length ≤ 1048576
structure VAct where
  Kind : Int
  M : Int
  G : Int
  X : Int
  Y : Int
  Z : Int
  deriving DecidableEq
def SmActS (xs : List VAct) : Prop := xs.length ≤ 1048576
def SmInsSS (xs : List (List VIns)) : Prop := xs.length ≤ 1048576 ∧ ∀ x ∈ xs, SmInsS x
def SmInsSSS (xs : List (List (List VIns))) : Prop := xs.length ≤ 1048576 ∧ ∀ x ∈ xs, SmInsSS x
def szIntS (xs : List Int) (n : Int) : Int := if n - xs.length < 0 then -1 else n - xs.length
theorem szIntS_ok (xs : List Int) (n : Int) (h : 0 ≤ szIntS xs n) : szIntS xs n ≤ n ∧ (n ≤ 1048576 → SmIntS xs) := by
  unfold szIntS at h ⊢
  split at h
  · omega
  · rename_i h0
    rw [if_neg h0]
    exact ⟨by omega, fun hn => by unfold SmIntS; omega⟩
def szIntSS (xs : List (List Int)) (n : Int) : Int := if n - xs.length < 0 then -1 else szFold szIntS xs (n - xs.length)
theorem szIntSS_ok (xs : List (List Int)) (n : Int) (h : 0 ≤ szIntSS xs n) : szIntSS xs n ≤ n ∧ (n ≤ 1048576 → SmIntSS xs) := by
  unfold szIntSS at h ⊢
  split at h
  · omega
  · rename_i h0
    rw [if_neg h0]
    obtain ⟨h1, h2⟩ := szFold_ok szIntS_ok xs _ h
    exact ⟨by omega, fun hn => ⟨by omega, h2 (by omega)⟩⟩
def szSlotS (xs : List VSlot) (n : Int) : Int := if n - xs.length < 0 then -1 else n - xs.length
theorem szSlotS_ok (xs : List VSlot) (n : Int) (h : 0 ≤ szSlotS xs n) : szSlotS xs n ≤ n ∧ (n ≤ 1048576 → SmSlotS xs) := by
  unfold szSlotS at h ⊢
  split at h
  · omega
  · rename_i h0
    rw [if_neg h0]
    exact ⟨by omega, fun hn => by unfold SmSlotS; omega⟩
def szBoolS (xs : List Bool) (n : Int) : Int := if n - xs.length < 0 then -1 else n - xs.length
theorem szBoolS_ok (xs : List Bool) (n : Int) (h : 0 ≤ szBoolS xs n) : szBoolS xs n ≤ n ∧ (n ≤ 1048576 → SmBoolS xs) := by
  unfold szBoolS at h ⊢
  split at h
  · omega
  · rename_i h0
    rw [if_neg h0]
    exact ⟨by omega, fun hn => by unfold SmBoolS; omega⟩
def szInsS (xs : List VIns) (n : Int) : Int := if n - xs.length < 0 then -1 else n - xs.length
theorem szInsS_ok (xs : List VIns) (n : Int) (h : 0 ≤ szInsS xs n) : szInsS xs n ≤ n ∧ (n ≤ 1048576 → SmInsS xs) := by
  unfold szInsS at h ⊢
  split at h
  · omega
  · rename_i h0
    rw [if_neg h0]
    exact ⟨by omega, fun hn => by unfold SmInsS; omega⟩
def szGuest (x : VGuest) (n : Int) : Int := szThen [szInsS x.Prog, szSlotS x.Written, szSlotS x.Live, szIntS x.Seen] n
theorem szGuest_ok (x : VGuest) (n : Int) (h : 0 ≤ szGuest x n) : szGuest x n ≤ n ∧ (n ≤ 1048576 → SmGuest x) := by
  unfold szGuest at h ⊢
  simp only [szThen] at h ⊢
  have e0 := szInsS_ok x.Prog (n)
  have e1 := szSlotS_ok x.Written (szInsS x.Prog (n))
  have e2 := szSlotS_ok x.Live (szSlotS x.Written (szInsS x.Prog (n)))
  have e3 := szIntS_ok x.Seen (szSlotS x.Live (szSlotS x.Written (szInsS x.Prog (n))))
  repeat' split at h
  all_goals (try omega)
  simp only [*, if_false]
  simp only [Int.not_lt] at *
  refine ⟨by omega, fun hn => ⟨by exact (e0 (by omega)).2 (by omega), by exact (e1 (by omega)).2 (by omega), by exact (e2 (by omega)).2 (by omega), by exact (e3 (by omega)).2 (by omega)⟩⟩
def szGuestS (xs : List VGuest) (n : Int) : Int := if n - xs.length < 0 then -1 else szFold szGuest xs (n - xs.length)
theorem szGuestS_ok (xs : List VGuest) (n : Int) (h : 0 ≤ szGuestS xs n) : szGuestS xs n ≤ n ∧ (n ≤ 1048576 → SmGuestS xs) := by
  unfold szGuestS at h ⊢
  split at h
  · omega
  · rename_i h0
    rw [if_neg h0]
    obtain ⟨h1, h2⟩ := szFold_ok szGuest_ok xs _ h
    exact ⟨by omega, fun hn => ⟨by omega, h2 (by omega)⟩⟩
def szKept (x : VKept) (n : Int) : Int := szThen [szBoolS x.Known, szSlotS x.Slots] n
theorem szKept_ok (x : VKept) (n : Int) (h : 0 ≤ szKept x n) : szKept x n ≤ n ∧ (n ≤ 1048576 → SmKept x) := by
  unfold szKept at h ⊢
  simp only [szThen] at h ⊢
  have e0 := szBoolS_ok x.Known (n)
  have e1 := szSlotS_ok x.Slots (szBoolS x.Known (n))
  repeat' split at h
  all_goals (try omega)
  simp only [*, if_false]
  simp only [Int.not_lt] at *
  refine ⟨by omega, fun hn => ⟨by exact (e0 (by omega)).2 (by omega), by exact (e1 (by omega)).2 (by omega)⟩⟩
def szKeptS (xs : List VKept) (n : Int) : Int := if n - xs.length < 0 then -1 else szFold szKept xs (n - xs.length)
theorem szKeptS_ok (xs : List VKept) (n : Int) (h : 0 ≤ szKeptS xs n) : szKeptS xs n ≤ n ∧ (n ≤ 1048576 → SmKeptS xs) := by
  unfold szKeptS at h ⊢
  split at h
  · omega
  · rename_i h0
    rw [if_neg h0]
    obtain ⟨h1, h2⟩ := szFold_ok szKept_ok xs _ h
    exact ⟨by omega, fun hn => ⟨by omega, h2 (by omega)⟩⟩
def szMon (x : VMon) (n : Int) : Int := szThen [szSlotS x.Outer, szIntSS x.Out, szBoolS x.Dirty, szGuestS x.Guests, szIntS x.Outs, szKeptS x.Tables] n
theorem szMon_ok (x : VMon) (n : Int) (h : 0 ≤ szMon x n) : szMon x n ≤ n ∧ (n ≤ 1048576 → SmMon x) := by
  unfold szMon at h ⊢
  simp only [szThen] at h ⊢
  have e0 := szSlotS_ok x.Outer (n)
  have e1 := szIntSS_ok x.Out (szSlotS x.Outer (n))
  have e2 := szBoolS_ok x.Dirty (szIntSS x.Out (szSlotS x.Outer (n)))
  have e3 := szGuestS_ok x.Guests (szBoolS x.Dirty (szIntSS x.Out (szSlotS x.Outer (n))))
  have e4 := szIntS_ok x.Outs (szGuestS x.Guests (szBoolS x.Dirty (szIntSS x.Out (szSlotS x.Outer (n)))))
  have e5 := szKeptS_ok x.Tables (szIntS x.Outs (szGuestS x.Guests (szBoolS x.Dirty (szIntSS x.Out (szSlotS x.Outer (n))))))
  repeat' split at h
  all_goals (try omega)
  simp only [*, if_false]
  simp only [Int.not_lt] at *
  refine ⟨by omega, fun hn => ⟨by exact (e0 (by omega)).2 (by omega), by exact (e1 (by omega)).2 (by omega), by exact (e2 (by omega)).2 (by omega), by exact (e3 (by omega)).2 (by omega), by exact (e4 (by omega)).2 (by omega), by exact (e5 (by omega)).2 (by omega)⟩⟩
def szMonS (xs : List VMon) (n : Int) : Int := if n - xs.length < 0 then -1 else szFold szMon xs (n - xs.length)
theorem szMonS_ok (xs : List VMon) (n : Int) (h : 0 ≤ szMonS xs n) : szMonS xs n ≤ n ∧ (n ≤ 1048576 → SmMonS xs) := by
  unfold szMonS at h ⊢
  split at h
  · omega
  · rename_i h0
    rw [if_neg h0]
    obtain ⟨h1, h2⟩ := szFold_ok szMon_ok xs _ h
    exact ⟨by omega, fun hn => ⟨by omega, h2 (by omega)⟩⟩
def szEntryS (xs : List VEntry) (n : Int) : Int := if n - xs.length < 0 then -1 else n - xs.length
theorem szEntryS_ok (xs : List VEntry) (n : Int) (h : 0 ≤ szEntryS xs n) : szEntryS xs n ≤ n ∧ (n ≤ 1048576 → SmEntryS xs) := by
  unfold szEntryS at h ⊢
  split at h
  · omega
  · rename_i h0
    rw [if_neg h0]
    exact ⟨by omega, fun hn => by unfold SmEntryS; omega⟩
def szHost (x : VHost) (n : Int) : Int := szThen [szIntSS x.Memory, szMonS x.Mons, szEntryS x.Buffer, szEntryS x.IoBuffer] n
theorem szHost_ok (x : VHost) (n : Int) (h : 0 ≤ szHost x n) : szHost x n ≤ n ∧ (n ≤ 1048576 → SmHost x) := by
  unfold szHost at h ⊢
  simp only [szThen] at h ⊢
  have e0 := szIntSS_ok x.Memory (n)
  have e1 := szMonS_ok x.Mons (szIntSS x.Memory (n))
  have e2 := szEntryS_ok x.Buffer (szMonS x.Mons (szIntSS x.Memory (n)))
  have e3 := szEntryS_ok x.IoBuffer (szEntryS x.Buffer (szMonS x.Mons (szIntSS x.Memory (n))))
  repeat' split at h
  all_goals (try omega)
  simp only [*, if_false]
  simp only [Int.not_lt] at *
  refine ⟨by omega, fun hn => ⟨by exact (e0 (by omega)).2 (by omega), by exact (e1 (by omega)).2 (by omega), by exact (e2 (by omega)).2 (by omega), by exact (e3 (by omega)).2 (by omega)⟩⟩
def szMove (x : VMove) (n : Int) : Int := szThen [szIntSS x.Have] n
theorem szMove_ok (x : VMove) (n : Int) (h : 0 ≤ szMove x n) : szMove x n ≤ n ∧ (n ≤ 1048576 → SmMove x) := by
  unfold szMove at h ⊢
  simp only [szThen] at h ⊢
  have e0 := szIntSS_ok x.Have (n)
  by_cases h1 : szIntSS x.Have (n) < 0
  · rw [if_pos h1] at h; omega
  · rw [if_neg h1] at h ⊢
    exact e0 h
theorem szIntS_le (x : List Int) (n : Int) (h : 0 ≤ n) : szIntS x n ≤ n := by
  by_cases g : 0 ≤ szIntS x n
  · exact (szIntS_ok x n g).1
  · omega
theorem szIntSS_le (x : List (List Int)) (n : Int) (h : 0 ≤ n) : szIntSS x n ≤ n := by
  by_cases g : 0 ≤ szIntSS x n
  · exact (szIntSS_ok x n g).1
  · omega
theorem szSlotS_le (x : List VSlot) (n : Int) (h : 0 ≤ n) : szSlotS x n ≤ n := by
  by_cases g : 0 ≤ szSlotS x n
  · exact (szSlotS_ok x n g).1
  · omega
theorem szBoolS_le (x : List Bool) (n : Int) (h : 0 ≤ n) : szBoolS x n ≤ n := by
  by_cases g : 0 ≤ szBoolS x n
  · exact (szBoolS_ok x n g).1
  · omega
theorem szInsS_le (x : List VIns) (n : Int) (h : 0 ≤ n) : szInsS x n ≤ n := by
  by_cases g : 0 ≤ szInsS x n
  · exact (szInsS_ok x n g).1
  · omega
theorem szGuestS_le (x : List VGuest) (n : Int) (h : 0 ≤ n) : szGuestS x n ≤ n := by
  by_cases g : 0 ≤ szGuestS x n
  · exact (szGuestS_ok x n g).1
  · omega
theorem szMonS_le (x : List VMon) (n : Int) (h : 0 ≤ n) : szMonS x n ≤ n := by
  by_cases g : 0 ≤ szMonS x n
  · exact (szMonS_ok x n g).1
  · omega
theorem szEntryS_le (x : List VEntry) (n : Int) (h : 0 ≤ n) : szEntryS x n ≤ n := by
  by_cases g : 0 ≤ szEntryS x n
  · exact (szEntryS_ok x n g).1
  · omega
end Go.Proofs.YteelmdpahpggkaaGreat.T


