
import Derived.Test.YteelmdpahpggkaaGreatHap
namespace Go.Proofs.YteelmdpahpggkaaGreat.T
open Go
set_option linter.unusedVariables false
set_option linter.unusedSimpArgs false
set_option maxRecDepth 100000
set_option maxHeartbeats 1000000
def mkFold {α : Type} (f : Int → α → α) (c : α → Int) : Int → List α → List α
 | _, [] => []
 | k, x :: l => f k x :: mkFold f c (k + c x) l
def cntFold {α : Type} (c : α → Int) : List α → Int
 | [] => 0
 | x :: l => c x + cntFold c l
theorem mkFold_len {α : Type} (f : Int → α → α) (c : α → Int) : ∀ (xs : List α) (k : Int), (mkFold f c k xs).length = xs.length
 | [], _ => rfl
 | x :: l, k => by simp [mkFold, mkFold_len f c l]
theorem cntFold_nn {α : Type} {c : α → Int} (h : ∀ x, 0 ≤ c x) : ∀ xs : List α, 0 ≤ cntFold c xs
 | [] => Int.le_refl _
 | x :: l => by have := h x; have := cntFold_nn h l; simp only [cntFold]; omega
theorem cntFold_app {α : Type} (c : α → Int) : ∀ xs ys : List α, cntFold c (xs ++ ys) = cntFold c xs + cntFold c ys
 | [], ys => by simp [cntFold]
 | x :: l, ys => by simp only [List.cons_append, cntFold, cntFold_app c l ys]; omega
theorem cntFold_step {α : Type} {c : α → Int} {xs : List α} {i : Nat} {x : α} (hx : xs[i]? = some x) : cntFold c (xs.take (i + 1)) = cntFold c (xs.take i) + c x := by
 rw [List.take_add_one, hx, cntFold_app]
 simp [cntFold]
theorem cntFold_le {α : Type} {c : α → Int} (h : ∀ x, 0 ≤ c x) (xs : List α) (i : Nat) : cntFold c (xs.take i) ≤ cntFold c xs := by
 have := cntFold_app c (xs.take i) (xs.drop i)
 rw [List.take_append_drop] at this
 have := cntFold_nn h (xs.drop i)
 omega
theorem mkFold_get {α : Type} (f : Int → α → α) (c : α → Int) : ∀ {xs : List α} {i : Nat} {x : α} (k : Int), xs[i]? = some x → (mkFold f c k xs)[i]? = some (f (k + cntFold c (xs.take i)) x)
 | [], i, x, k, h => by simp at h
 | y :: l, 0, x, k, h => by
  simp only [List.getElem?_cons_zero, Option.some.injEq] at h
  subst h
  simp [mkFold, cntFold]
 | y :: l, i + 1, x, k, h => by
  have := mkFold_get f c (k + c y) (xs := l) (i := i) (by simpa using h)
  simp only [mkFold, List.getElem?_cons_succ, List.take_succ_cons, cntFold, this]
  congr 2
  omega
def mkEInt (k : Int) (_ : Int) : Int := k
def cntEInt (_ : Int) : Int := 1
theorem cntEInt_nn (x : Int) : 0 ≤ cntEInt x := by simp [cntEInt]
def mkIntS (k : Int) (xs : List Int) : List Int := mkFold mkEInt cntEInt k xs
def cntIntS (xs : List Int) : Int := cntFold cntEInt xs
theorem cntIntS_nn (xs : List Int) : 0 ≤ cntIntS xs := cntFold_nn cntEInt_nn xs
theorem mkIntS_len (k : Int) (xs : List Int) : (mkIntS k xs).length = xs.length := mkFold_len _ _ _ _
abbrev mkEIntS := mkIntS
abbrev cntEIntS := cntIntS
theorem cntEIntS_nn (xs : List Int) : 0 ≤ cntEIntS xs := cntIntS_nn xs
def mkIntSS (k : Int) (xs : List (List Int)) : List (List Int) := mkFold mkEIntS cntEIntS k xs
def cntIntSS (xs : List (List Int)) : Int := cntFold cntEIntS xs
theorem cntIntSS_nn (xs : List (List Int)) : 0 ≤ cntIntSS xs := cntFold_nn cntEIntS_nn xs
theorem mkIntSS_len (k : Int) (xs : List (List Int)) : (mkIntSS k xs).length = xs.length := mkFold_len _ _ _ _
def mkESlot (k : Int) (x : VSlot) : VSlot := ⟨(k), (k + 1)⟩
def cntESlot (_ : VSlot) : Int := 1 + 1
theorem cntESlot_nn (x : VSlot) : 0 ≤ cntESlot x := by
 unfold cntESlot
 omega
def mkSlotS (k : Int) (xs : List VSlot) : List VSlot := mkFold mkESlot cntESlot k xs
def cntSlotS (xs : List VSlot) : Int := cntFold cntESlot xs
theorem cntSlotS_nn (xs : List VSlot) : 0 ≤ cntSlotS xs := cntFold_nn cntESlot_nn xs
theorem mkSlotS_len (k : Int) (xs : List VSlot) : (mkSlotS k xs).length = xs.length := mkFold_len _ _ _ _
def mkEBool (k : Int) (_ : Bool) : Bool := (k.tmod 3 == 0)
def cntEBool (_ : Bool) : Int := 1
theorem cntEBool_nn (x : Bool) : 0 ≤ cntEBool x := by simp [cntEBool]
def mkBoolS (k : Int) (xs : List Bool) : List Bool := mkFold mkEBool cntEBool k xs
def cntBoolS (xs : List Bool) : Int := cntFold cntEBool xs
theorem cntBoolS_nn (xs : List Bool) : 0 ≤ cntBoolS xs := cntFold_nn cntEBool_nn xs
theorem mkBoolS_len (k : Int) (xs : List Bool) : (mkBoolS k xs).length = xs.length := mkFold_len _ _ _ _
def mkEIns (k : Int) (x : VIns) : VIns := ⟨(k), (k + 1)⟩
def cntEIns (_ : VIns) : Int := 1 + 1
theorem cntEIns_nn (x : VIns) : 0 ≤ cntEIns x := by
 unfold cntEIns
 omega
def mkInsS (k : Int) (xs : List VIns) : List VIns := mkFold mkEIns cntEIns k xs
def cntInsS (xs : List VIns) : Int := cntFold cntEIns xs
theorem cntInsS_nn (xs : List VIns) : 0 ≤ cntInsS xs := cntFold_nn cntEIns_nn xs
theorem mkInsS_len (k : Int) (xs : List VIns) : (mkInsS k xs).length = xs.length := mkFold_len _ _ _ _
def mkEGuest (k : Int) (x : VGuest) : VGuest := ⟨(mkInsS (k) x.Prog), (k + cntInsS x.Prog), (k + cntInsS x.Prog + 1), (mkSlotS (k + cntInsS x.Prog + 1 + 1) x.Written), (mkSlotS (k + cntInsS x.Prog + 1 + 1 + cntSlotS x.Written) x.Live), ⟨(k + cntInsS x.Prog + 1 + 1 + cntSlotS x.Written + cntSlotS x.Live), (k + cntInsS x.Prog + 1 + 1 + cntSlotS x.Written + cntSlotS x.Live + 1), ((k + cntInsS x.Prog + 1 + 1 + cntSlotS x.Written + cntSlotS x.Live + 1 + 1).tmod 3 == 0)⟩, (k + cntInsS x.Prog + 1 + 1 + cntSlotS x.Written + cntSlotS x.Live + 1 + 1 + 1), ⟨(k + cntInsS x.Prog + 1 + 1 + cntSlotS x.Written + cntSlotS x.Live + 1 + 1 + 1 + 1), (k + cntInsS x.Prog + 1 + 1 + cntSlotS x.Written + cntSlotS x.Live + 1 + 1 + 1 + 1 + 1), ((k + cntInsS x.Prog + 1 + 1 + cntSlotS x.Written + cntSlotS x.Live + 1 + 1 + 1 + 1 + 1 + 1).tmod 3 == 0), (k + cntInsS x.Prog + 1 + 1 + cntSlotS x.Written + cntSlotS x.Live + 1 + 1 + 1 + 1 + 1 + 1 + 1)⟩, ((k + cntInsS x.Prog + 1 + 1 + cntSlotS x.Written + cntSlotS x.Live + 1 + 1 + 1 + 1 + 1 + 1 + 1 + 1).tmod 3 == 0), (mkIntS (k + cntInsS x.Prog + 1 + 1 + cntSlotS x.Written + cntSlotS x.Live + 1 + 1 + 1 + 1 + 1 + 1 + 1 + 1 + 1) x.Seen)⟩
def cntEGuest (x : VGuest) : Int := cntInsS x.Prog + 1 + 1 + cntSlotS x.Written + cntSlotS x.Live + 1 + 1 + 1 + 1 + 1 + 1 + 1 + 1 + 1 + cntIntS x.Seen
theorem cntEGuest_nn (x : VGuest) : 0 ≤ cntEGuest x := by
 have := cntInsS_nn x.Prog
 have := cntSlotS_nn x.Written
 have := cntSlotS_nn x.Live
 have := cntIntS_nn x.Seen
 unfold cntEGuest
 omega
def mkGuestS (k : Int) (xs : List VGuest) : List VGuest := mkFold mkEGuest cntEGuest k xs
def cntGuestS (xs : List VGuest) : Int := cntFold cntEGuest xs
theorem cntGuestS_nn (xs : List VGuest) : 0 ≤ cntGuestS xs := cntFold_nn cntEGuest_nn xs
theorem mkGuestS_len (k : Int) (xs : List VGuest) : (mkGuestS k xs).length = xs.length := mkFold_len _ _ _ _
def mkEKept (k : Int) (x : VKept) : VKept := ⟨(mkBoolS (k) x.Known), (mkSlotS (k + cntBoolS x.Known) x.Slots)⟩
def cntEKept (x : VKept) : Int := cntBoolS x.Known + cntSlotS x.Slots
theorem cntEKept_nn (x : VKept) : 0 ≤ cntEKept x := by
 have := cntBoolS_nn x.Known
 have := cntSlotS_nn x.Slots
 unfold cntEKept
 omega
def mkKeptS (k : Int) (xs : List VKept) : List VKept := mkFold mkEKept cntEKept k xs
def cntKeptS (xs : List VKept) : Int := cntFold cntEKept xs
theorem cntKeptS_nn (xs : List VKept) : 0 ≤ cntKeptS xs := cntFold_nn cntEKept_nn xs
theorem mkKeptS_len (k : Int) (xs : List VKept) : (mkKeptS k xs).length = xs.length := mkFold_len _ _ _ _
def mkEMon (k : Int) (x : VMon) : VMon := ⟨(mkSlotS (k) x.Outer), (mkIntSS (k + cntSlotS x.Outer) x.Out), (mkBoolS (k + cntSlotS x.Outer + cntIntSS x.Out) x.Dirty), (mkGuestS (k + cntSlotS x.Outer + cntIntSS x.Out + cntBoolS x.Dirty) x.Guests), (mkIntS (k + cntSlotS x.Outer + cntIntSS x.Out + cntBoolS x.Dirty + cntGuestS x.Guests) x.Outs), (k + cntSlotS x.Outer + cntIntSS x.Out + cntBoolS x.Dirty + cntGuestS x.Guests + cntIntS x.Outs), (k + cntSlotS x.Outer + cntIntSS x.Out + cntBoolS x.Dirty + cntGuestS x.Guests + cntIntS x.Outs + 1), (mkKeptS (k + cntSlotS x.Outer + cntIntSS x.Out + cntBoolS x.Dirty + cntGuestS x.Guests + cntIntS x.Outs + 1 + 1) x.Tables), (k + cntSlotS x.Outer + cntIntSS x.Out + cntBoolS x.Dirty + cntGuestS x.Guests + cntIntS x.Outs + 1 + 1 + cntKeptS x.Tables)⟩
def cntEMon (x : VMon) : Int := cntSlotS x.Outer + cntIntSS x.Out + cntBoolS x.Dirty + cntGuestS x.Guests + cntIntS x.Outs + 1 + 1 + cntKeptS x.Tables + 1
theorem cntEMon_nn (x : VMon) : 0 ≤ cntEMon x := by
 have := cntSlotS_nn x.Outer
 have := cntIntSS_nn x.Out
 have := cntBoolS_nn x.Dirty
 have := cntGuestS_nn x.Guests
 have := cntIntS_nn x.Outs
 have := cntKeptS_nn x.Tables
 unfold cntEMon
 omega
def cntVMon (x : VMon) : Int := cntSlotS x.Outer + cntIntSS x.Out + cntBoolS x.Dirty + cntGuestS x.Guests + cntIntS x.Outs + cntKeptS x.Tables
theorem cntVMon_nn (x : VMon) : 0 ≤ cntVMon x := by
 have := cntSlotS_nn x.Outer
 have := cntIntSS_nn x.Out
 have := cntBoolS_nn x.Dirty
 have := cntGuestS_nn x.Guests
 have := cntIntS_nn x.Outs
 have := cntKeptS_nn x.Tables
 unfold cntVMon
 omega
def mkMonS (k : Int) (xs : List VMon) : List VMon := mkFold mkEMon cntEMon k xs
def cntMonS (xs : List VMon) : Int := cntFold cntEMon xs
theorem cntMonS_nn (xs : List VMon) : 0 ≤ cntMonS xs := cntFold_nn cntEMon_nn xs
theorem mkMonS_len (k : Int) (xs : List VMon) : (mkMonS k xs).length = xs.length := mkFold_len _ _ _ _
def mkEEntry (k : Int) (x : VEntry) : VEntry := ⟨(k), (k + 1), (k + 1 + 1), (k + 1 + 1 + 1)⟩
def cntEEntry (_ : VEntry) : Int := 1 + 1 + 1 + 1
theorem cntEEntry_nn (x : VEntry) : 0 ≤ cntEEntry x := by
 unfold cntEEntry
 omega
def mkEntryS (k : Int) (xs : List VEntry) : List VEntry := mkFold mkEEntry cntEEntry k xs
def cntEntryS (xs : List VEntry) : Int := cntFold cntEEntry xs
theorem cntEntryS_nn (xs : List VEntry) : 0 ≤ cntEntryS xs := cntFold_nn cntEEntry_nn xs
theorem mkEntryS_len (k : Int) (xs : List VEntry) : (mkEntryS k xs).length = xs.length := mkFold_len _ _ _ _
def mkVHost (k : Int) (x : VHost) : VHost := ⟨(mkIntSS (k) x.Memory), (mkMonS (k + cntIntSS x.Memory) x.Mons), (mkEntryS (k + cntIntSS x.Memory + cntMonS x.Mons) x.Buffer), (mkEntryS (k + cntIntSS x.Memory + cntMonS x.Mons + cntEntryS x.Buffer) x.IoBuffer)⟩
def cntVHost (x : VHost) : Int := cntIntSS x.Memory + cntMonS x.Mons + cntEntryS x.Buffer + cntEntryS x.IoBuffer
theorem cntVHost_nn (x : VHost) : 0 ≤ cntVHost x := by
 have := cntIntSS_nn x.Memory
 have := cntMonS_nn x.Mons
 have := cntEntryS_nn x.Buffer
 have := cntEntryS_nn x.IoBuffer
 unfold cntVHost
 omega
theorem szFold_cnt {α : Type} {f : α → Int → Int} {c : α → Int} (h : ∀ x n, 0 ≤ f x n → c x ≤ 32 * (n - f x n) + 32) : ∀ (xs : List α) (n : Int), 0 ≤ szFold f xs n → cntFold c xs ≤ 32 * (n - szFold f xs n) + 32 * xs.length
 | [], n, _ => by simp [szFold, cntFold]
 | x :: l, n, hn => by
  unfold szFold at hn ⊢
  split at hn
  ·omega
  ·rename_i h0
   rw [if_neg h0]
   have h1 := h x n (by omega)
   have h2 := szFold_cnt h l _ hn
   simp only [cntFold, List.length_cons]
   omega
theorem cntFold_flat {α : Type} {c : α → Int} (h : ∀ x, c x ≤ 32) : ∀ (xs : List α), cntFold c xs ≤ 32 * xs.length
 | [] => by simp [cntFold]
 | x :: l => by
  have h1 := h x
  have h2 := cntFold_flat h l
  simp only [cntFold, List.length_cons]
  omega
theorem szIntS_cnt (xs : List Int) (n : Int) (h : 0 ≤ szIntS xs n) : cntIntS xs ≤ 32 * (n - szIntS xs n) := by
 unfold szIntS at h ⊢
 split at h
 ·omega
 ·rename_i h0
  rw [if_neg h0]
  have := cntFold_flat (c := cntEInt) (fun x => by simp [cntEInt]) xs
  unfold cntIntS
  omega
theorem szIntS_cntE (xs : List Int) (n : Int) (h : 0 ≤ szIntS xs n) : cntEIntS xs ≤ 32 * (n - szIntS xs n) + 32 := by
 have := szIntS_cnt xs n h
 show cntIntS xs ≤ _
 omega
theorem szIntSS_cnt (xs : List (List Int)) (n : Int) (h : 0 ≤ szIntSS xs n) : cntIntSS xs ≤ 32 * (n - szIntSS xs n) := by
 unfold szIntSS at h ⊢
 split at h
 ·omega
 ·rename_i h0
  rw [if_neg h0]
  have := szFold_cnt (c := cntEIntS) (fun x n hx => szIntS_cntE x n hx) xs _ h
  unfold cntIntSS
  omega
theorem szSlotS_cnt (xs : List VSlot) (n : Int) (h : 0 ≤ szSlotS xs n) : cntSlotS xs ≤ 32 * (n - szSlotS xs n) := by
 unfold szSlotS at h ⊢
 split at h
 ·omega
 ·rename_i h0
  rw [if_neg h0]
  have := cntFold_flat (c := cntESlot) (fun x => by simp [cntESlot]) xs
  unfold cntSlotS
  omega
theorem szBoolS_cnt (xs : List Bool) (n : Int) (h : 0 ≤ szBoolS xs n) : cntBoolS xs ≤ 32 * (n - szBoolS xs n) := by
 unfold szBoolS at h ⊢
 split at h
 ·omega
 ·rename_i h0
  rw [if_neg h0]
  have := cntFold_flat (c := cntEBool) (fun x => by simp [cntEBool]) xs
  unfold cntBoolS
  omega
theorem szInsS_cnt (xs : List VIns) (n : Int) (h : 0 ≤ szInsS xs n) : cntInsS xs ≤ 32 * (n - szInsS xs n) := by
 unfold szInsS at h ⊢
 split at h
 ·omega
 ·rename_i h0
  rw [if_neg h0]
  have := cntFold_flat (c := cntEIns) (fun x => by simp [cntEIns]) xs
  unfold cntInsS
  omega
theorem szGuest_cntE (x : VGuest) (n : Int) (h : 0 ≤ szGuest x n) : cntEGuest x ≤ 32 * (n - szGuest x n) + 32 := by
 unfold szGuest at h ⊢
 simp only [szThen] at h ⊢
 have e0 := szInsS_cnt x.Prog (n)
 have e1 := szSlotS_cnt x.Written (szInsS x.Prog (n))
 have e2 := szSlotS_cnt x.Live (szSlotS x.Written (szInsS x.Prog (n)))
 have e3 := szIntS_cnt x.Seen (szSlotS x.Live (szSlotS x.Written (szInsS x.Prog (n))))
 repeat' split at h
 all_goals (try omega)
 simp only [*, if_false]
 simp only [Int.not_lt] at *
 unfold cntEGuest
 have e0 := e0 (by omega)
 have e1 := e1 (by omega)
 have e2 := e2 (by omega)
 have e3 := e3 (by omega)
 omega
theorem szGuestS_cnt (xs : List VGuest) (n : Int) (h : 0 ≤ szGuestS xs n) : cntGuestS xs ≤ 32 * (n - szGuestS xs n) := by
 unfold szGuestS at h ⊢
 split at h
 ·omega
 ·rename_i h0
  rw [if_neg h0]
  have := szFold_cnt (c := cntEGuest) (fun x n hx => szGuest_cntE x n hx) xs _ h
  unfold cntGuestS
  omega
theorem szKept_cntE (x : VKept) (n : Int) (h : 0 ≤ szKept x n) : cntEKept x ≤ 32 * (n - szKept x n) + 32 := by
 unfold szKept at h ⊢
 simp only [szThen] at h ⊢
 have e0 := szBoolS_cnt x.Known (n)
 have e1 := szSlotS_cnt x.Slots (szBoolS x.Known (n))
 repeat' split at h
 all_goals (try omega)
 simp only [*, if_false]
 simp only [Int.not_lt] at *
 unfold cntEKept
 have e0 := e0 (by omega)
 have e1 := e1 (by omega)
 omega
theorem szKeptS_cnt (xs : List VKept) (n : Int) (h : 0 ≤ szKeptS xs n) : cntKeptS xs ≤ 32 * (n - szKeptS xs n) := by
 unfold szKeptS at h ⊢
 split at h
 ·omega
 ·rename_i h0
  rw [if_neg h0]
  have := szFold_cnt (c := cntEKept) (fun x n hx => szKept_cntE x n hx) xs _ h
  unfold cntKeptS
  omega
theorem szMon_cntE (x : VMon) (n : Int) (h : 0 ≤ szMon x n) : cntEMon x ≤ 32 * (n - szMon x n) + 32 := by
 unfold szMon at h ⊢
 simp only [szThen] at h ⊢
 have e0 := szSlotS_cnt x.Outer (n)
 have e1 := szIntSS_cnt x.Out (szSlotS x.Outer (n))
 have e2 := szBoolS_cnt x.Dirty (szIntSS x.Out (szSlotS x.Outer (n)))
 have e3 := szGuestS_cnt x.Guests (szBoolS x.Dirty (szIntSS x.Out (szSlotS x.Outer (n))))
 have e4 := szIntS_cnt x.Outs (szGuestS x.Guests (szBoolS x.Dirty (szIntSS x.Out (szSlotS x.Outer (n)))))
 have e5 := szKeptS_cnt x.Tables (szIntS x.Outs (szGuestS x.Guests (szBoolS x.Dirty (szIntSS x.Out (szSlotS x.Outer (n))))))
 repeat' split at h
 all_goals (try omega)
 simp only [*, if_false]
 simp only [Int.not_lt] at *
 unfold cntEMon
 have e0 := e0 (by omega)
 have e1 := e1 (by omega)
 have e2 := e2 (by omega)
 have e3 := e3 (by omega)
 have e4 := e4 (by omega)
 have e5 := e5 (by omega)
 omega
theorem szMonS_cnt (xs : List VMon) (n : Int) (h : 0 ≤ szMonS xs n) : cntMonS xs ≤ 32 * (n - szMonS xs n) := by
 unfold szMonS at h ⊢
 split at h
 ·omega
 ·rename_i h0
  rw [if_neg h0]
  have := szFold_cnt (c := cntEMon) (fun x n hx => szMon_cntE x n hx) xs _ h
  unfold cntMonS
  omega
theorem szEntryS_cnt (xs : List VEntry) (n : Int) (h : 0 ≤ szEntryS xs n) : cntEntryS xs ≤ 32 * (n - szEntryS xs n) := by
 unfold szEntryS at h ⊢
 split at h
 ·omega
 ·rename_i h0
  rw [if_neg h0]
  have := cntFold_flat (c := cntEEntry) (fun x => by simp [cntEEntry]) xs
  unfold cntEntryS
  omega
theorem szHost_cntV (x : VHost) (n : Int) (h : 0 ≤ szHost x n) : cntVHost x ≤ 32 * (n - szHost x n) := by
 unfold szHost at h ⊢
 simp only [szThen] at h ⊢
 have e0 := szIntSS_cnt x.Memory (n)
 have e1 := szMonS_cnt x.Mons (szIntSS x.Memory (n))
 have e2 := szEntryS_cnt x.Buffer (szMonS x.Mons (szIntSS x.Memory (n)))
 have e3 := szEntryS_cnt x.IoBuffer (szEntryS x.Buffer (szMonS x.Mons (szIntSS x.Memory (n))))
 repeat' split at h
 all_goals (try omega)
 simp only [*, if_false]
 simp only [Int.not_lt] at *
 unfold cntVHost
 have e0 := e0 (by omega)
 have e1 := e1 (by omega)
 have e2 := e2 (by omega)
 have e3 := e3 (by omega)
 omega
end Go.Proofs.YteelmdpahpggkaaGreat.T

