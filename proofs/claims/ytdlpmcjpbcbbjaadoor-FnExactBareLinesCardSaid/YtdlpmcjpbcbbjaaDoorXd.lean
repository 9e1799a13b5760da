/- Marks: everything that is reached is numbered. PRINTED by gen.py out of spec_lines.py. -/
import Derived.Test.YtdlpmcjpbcbbjaaDoorTzg
import Derived.Test.YtdlpmcjpbcbbjaaDoorWe
namespace Go.Proofs.YtdlpmcjpbcbbjaaDoor.T
open Go
set_option linter.unusedVariables false
set_option linter.unusedSimpArgs false
set_option maxRecDepth 100000
set_option maxHeartbeats 1000000

/-- Elements numbered one behind the other. -/
def mkFold {α : Type} (f : Int → α → α) (c : α → Int) : Int → List α → List α
  | _, [] => []
  | k, x :: l => f k x :: mkFold f c (k + c x) l
def cntFold {α : Type} (c : α → Int) : List α → Int
  | [] => 0
  | x :: l => c x + cntFold c l
theorem mkFold_len {α : Type} (f : Int → α → α) (c : α → Int) : ∀ (xs : List α) (k : Int), (mkFold f c k xs).length = xs.length
  | [], _ => rfl
  | x :: l, k => by simp [mkFold, mkFold_len f c l]
theorem cntFold_nn {α : Type} {c : α → Int} (h : ∀ x, 0 ≤ c x) : ∀ xs : List α, 0 ≤ cntFold c xs
  | [] => Int.le_refl _
  | x :: l => by have := h x; have := cntFold_nn h l; simp only [cntFold]; omega
theorem cntFold_app {α : Type} (c : α → Int) : ∀ xs ys : List α, cntFold c (xs ++ ys) = cntFold c xs + cntFold c ys
  | [], ys => by simp [cntFold]
  | x :: l, ys => by simp only [List.cons_append, cntFold, cntFold_app c l ys]; omega
theorem cntFold_step {α : Type} {c : α → Int} {xs : List α} {i : Nat} {x : α} (hx : xs[i]? = some x) : cntFold c (xs.take (i + 1)) = cntFold c (xs.take i) + c x := by
  rw [List.take_add_one, hx, cntFold_app]
  simp [cntFold]
theorem cntFold_le {α : Type} {c : α → Int} (h : ∀ x, 0 ≤ c x) (xs : List α) (i : Nat) : cntFold c (xs.take i) ≤ cntFold c xs := by
  have := cntFold_app c (xs.take i) (xs.drop i)
  rw [List.take_append_drop] at this
  have := cntFold_nn h (xs.drop i)
  omega
theorem mkFold_get {α : Type} (f : Int → α → α) (c : α → Int) : ∀ {xs : List α} {i : Nat} {x : α} (k : Int), xs[i]? = some x → (mkFold f c k xs)[i]? = some (f (k + cntFold c (xs.take i)) x)
  | [], i, x, k, h => by simp at h
  | y :: l, 0, x, k, h => by
    simp only [List.getElem?_cons_zero, Option.some.injEq] at h
    subst h
    simp [mkFold, cntFold]
  | y :: l, i + 1, x, k, h => by
    have := mkFold_get f c (k + c y) (xs := l) (i := i) (by simpa using h)
    simp only [mkFold, List.getElem?_cons_succ, List.take_succ_cons, cntFold, this]
    congr 2
    omega

def mText (k : Int) : ByteArray := if k ≤ 0 then ⟨#[109, 48]⟩ else ⟨#[109]⟩ ++ str (pdec k.natAbs)
abbrev dStr (x : ByteArray) : D := .v (.string x)
theorem mText_step {v : Int} (hv : 0 < v) (s : ByteArray) : str (pdec v.natAbs) ++ s = str (pdec (v.tdiv 10).natAbs) ++ (strOfNums [48 + v.tmod 10] ++ s) := by
  have h1 : (v.tdiv 10).natAbs = v.natAbs / 10 := by rw [Int.natAbs_tdiv]; rfl
  have h2 : (v.tmod 10).natAbs = v.natAbs % 10 := by rw [Int.natAbs_tmod]; rfl
  have h4 : 0 ≤ v.tmod 10 := Int.tmod_nonneg 10 (by omega)
  have h3 : v.tmod 10 = ((v.natAbs % 10 : Nat) : Int) := by omega
  rw [pdec_step (by omega : v.natAbs ≠ 0), str_app, h1, strOfNums_one (k := 48 + v.natAbs % 10) (by omega) (by omega), ByteArray.append_assoc]
theorem mText_size {k v : Int} {s : ByteArray} (h : str (pdec k.natAbs) = str (pdec v.natAbs) ++ s) (h1 : k.natAbs < 10000000000000000000) : s.size ≤ 20 := by
  have h2 := congrArg ByteArray.size h
  rw [str_size, ByteArray.size_append] at h2
  have h3 : (pdec k.natAbs).length ≤ 20 := by
    unfold pdec
    split
    · simp
    · rw [Lib.decDigits_length]; exact nDigits_le 19 _ (by omega)
  omega
def mkEInt (k : Int) (_ : Int) : Int := k
def cntEInt (_ : Int) : Int := 1
theorem cntEInt_nn (x : Int) : 0 ≤ cntEInt x := by simp [cntEInt]
def mkIntS (k : Int) (xs : List Int) : List Int := mkFold mkEInt cntEInt k xs
def cntIntS (xs : List Int) : Int := cntFold cntEInt xs
theorem cntIntS_nn (xs : List Int) : 0 ≤ cntIntS xs := cntFold_nn cntEInt_nn xs
theorem mkIntS_len (k : Int) (xs : List Int) : (mkIntS k xs).length = xs.length := mkFold_len _ _ _ _
abbrev mkEIntS := mkIntS
abbrev cntEIntS := cntIntS
theorem cntEIntS_nn (xs : List Int) : 0 ≤ cntEIntS xs := cntIntS_nn xs
def mkIntSS (k : Int) (xs : List (List Int)) : List (List Int) := mkFold mkEIntS cntEIntS k xs
def cntIntSS (xs : List (List Int)) : Int := cntFold cntEIntS xs
theorem cntIntSS_nn (xs : List (List Int)) : 0 ≤ cntIntSS xs := cntFold_nn cntEIntS_nn xs
theorem mkIntSS_len (k : Int) (xs : List (List Int)) : (mkIntSS k xs).length = xs.length := mkFold_len _ _ _ _
abbrev mkEIntSS := mkIntSS
abbrev cntEIntSS := cntIntSS
theorem cntEIntSS_nn (xs : List (List Int)) : 0 ≤ cntEIntSS xs := cntIntSS_nn xs
def mkEIns (k : Int) (x : VIns) : VIns := ⟨(k), (k + 1)⟩
def cntEIns (_ : VIns) : Int := 1 + 1
theorem cntEIns_nn (x : VIns) : 0 ≤ cntEIns x := by
  unfold cntEIns
  omega
def mkInsS (k : Int) (xs : List VIns) : List VIns := mkFold mkEIns cntEIns k xs
def cntInsS (xs : List VIns) : Int := cntFold cntEIns xs
theorem cntInsS_nn (xs : List VIns) : 0 ≤ cntInsS xs := cntFold_nn cntEIns_nn xs
theorem mkInsS_len (k : Int) (xs : List VIns) : (mkInsS k xs).length = xs.length := mkFold_len _ _ _ _
abbrev mkEInsS := mkInsS
abbrev cntEInsS := cntInsS
theorem cntEInsS_nn (xs : List VIns) : 0 ≤ cntEInsS xs := cntInsS_nn xs
def mkESlot (k : Int) (x : VSlot) : VSlot := ⟨(k), (k + 1)⟩
def cntESlot (_ : VSlot) : Int := 1 + 1
theorem cntESlot_nn (x : VSlot) : 0 ≤ cntESlot x := by
  unfold cntESlot
  omega
def mkSlotS (k : Int) (xs : List VSlot) : List VSlot := mkFold mkESlot cntESlot k xs
def cntSlotS (xs : List VSlot) : Int := cntFold cntESlot xs
theorem cntSlotS_nn (xs : List VSlot) : 0 ≤ cntSlotS xs := cntFold_nn cntESlot_nn xs
theorem mkSlotS_len (k : Int) (xs : List VSlot) : (mkSlotS k xs).length = xs.length := mkFold_len _ _ _ _
abbrev mkESlotS := mkSlotS
abbrev cntESlotS := cntSlotS
theorem cntESlotS_nn (xs : List VSlot) : 0 ≤ cntESlotS xs := cntSlotS_nn xs
def mkEBool (k : Int) (_ : Bool) : Bool := (k.tmod 3 == 0)
def cntEBool (_ : Bool) : Int := 1
theorem cntEBool_nn (x : Bool) : 0 ≤ cntEBool x := by simp [cntEBool]
def mkECtl (k : Int) (x : VCtl) : VCtl := ⟨(k), (k + 1), ((k + 1 + 1).tmod 3 == 0)⟩
def cntECtl (_ : VCtl) : Int := 1 + 1 + 1
theorem cntECtl_nn (x : VCtl) : 0 ≤ cntECtl x := by
  unfold cntECtl
  omega
def mkEExit (k : Int) (x : VExit) : VExit := ⟨(k), (k + 1), ((k + 1 + 1).tmod 3 == 0), (k + 1 + 1 + 1)⟩
def cntEExit (_ : VExit) : Int := 1 + 1 + 1 + 1
theorem cntEExit_nn (x : VExit) : 0 ≤ cntEExit x := by
  unfold cntEExit
  omega
def mkEGuest (k : Int) (x : VGuest) : VGuest := ⟨(mkInsS (k) x.Prog), (k + cntInsS x.Prog), (k + cntInsS x.Prog + 1), (mkSlotS (k + cntInsS x.Prog + 1 + 1) x.Written), (mkSlotS (k + cntInsS x.Prog + 1 + 1 + cntSlotS x.Written) x.Live), ⟨(k + cntInsS x.Prog + 1 + 1 + cntSlotS x.Written + cntSlotS x.Live), (k + cntInsS x.Prog + 1 + 1 + cntSlotS x.Written + cntSlotS x.Live + 1), ((k + cntInsS x.Prog + 1 + 1 + cntSlotS x.Written + cntSlotS x.Live + 1 + 1).tmod 3 == 0)⟩, (k + cntInsS x.Prog + 1 + 1 + cntSlotS x.Written + cntSlotS x.Live + 1 + 1 + 1), ⟨(k + cntInsS x.Prog + 1 + 1 + cntSlotS x.Written + cntSlotS x.Live + 1 + 1 + 1 + 1), (k + cntInsS x.Prog + 1 + 1 + cntSlotS x.Written + cntSlotS x.Live + 1 + 1 + 1 + 1 + 1), ((k + cntInsS x.Prog + 1 + 1 + cntSlotS x.Written + cntSlotS x.Live + 1 + 1 + 1 + 1 + 1 + 1).tmod 3 == 0), (k + cntInsS x.Prog + 1 + 1 + cntSlotS x.Written + cntSlotS x.Live + 1 + 1 + 1 + 1 + 1 + 1 + 1)⟩, ((k + cntInsS x.Prog + 1 + 1 + cntSlotS x.Written + cntSlotS x.Live + 1 + 1 + 1 + 1 + 1 + 1 + 1 + 1).tmod 3 == 0), (mkIntS (k + cntInsS x.Prog + 1 + 1 + cntSlotS x.Written + cntSlotS x.Live + 1 + 1 + 1 + 1 + 1 + 1 + 1 + 1 + 1) x.Seen)⟩
def cntEGuest (x : VGuest) : Int := cntInsS x.Prog + 1 + 1 + cntSlotS x.Written + cntSlotS x.Live + 1 + 1 + 1 + 1 + 1 + 1 + 1 + 1 + 1 + cntIntS x.Seen
theorem cntEGuest_nn (x : VGuest) : 0 ≤ cntEGuest x := by
  have := cntInsS_nn x.Prog
  have := cntSlotS_nn x.Written
  have := cntSlotS_nn x.Live
  have := cntIntS_nn x.Seen
  unfold cntEGuest
  omega
def mkVGuest (k : Int) (x : VGuest) : VGuest := ⟨(mkInsS (k) x.Prog), x.A, x.Pc, (mkSlotS (k + cntInsS x.Prog) x.Written), (mkSlotS (k + cntInsS x.Prog + cntSlotS x.Written) x.Live), ⟨x.Ctl.Traps, x.Ctl.Post, x.Ctl.Open⟩, x.Pending, ⟨x.Exit.Kind, x.Exit.Page, x.Exit.Write, x.Exit.N⟩, x.Halted, (mkIntS (k + cntInsS x.Prog + cntSlotS x.Written + cntSlotS x.Live) x.Seen)⟩
def cntVGuest (x : VGuest) : Int := cntInsS x.Prog + cntSlotS x.Written + cntSlotS x.Live + cntIntS x.Seen
theorem cntVGuest_nn (x : VGuest) : 0 ≤ cntVGuest x := by
  have := cntInsS_nn x.Prog
  have := cntSlotS_nn x.Written
  have := cntSlotS_nn x.Live
  have := cntIntS_nn x.Seen
  unfold cntVGuest
  omega
def mkGuestS (k : Int) (xs : List VGuest) : List VGuest := mkFold mkEGuest cntEGuest k xs
def cntGuestS (xs : List VGuest) : Int := cntFold cntEGuest xs
theorem cntGuestS_nn (xs : List VGuest) : 0 ≤ cntGuestS xs := cntFold_nn cntEGuest_nn xs
theorem mkGuestS_len (k : Int) (xs : List VGuest) : (mkGuestS k xs).length = xs.length := mkFold_len _ _ _ _
abbrev mkEGuestS := mkGuestS
abbrev cntEGuestS := cntGuestS
theorem cntEGuestS_nn (xs : List VGuest) : 0 ≤ cntEGuestS xs := cntGuestS_nn xs
def mkEBare (k : Int) (x : VBare) : VBare := ⟨(mkIntSS (k) x.Memory), (mkGuestS (k + cntIntSS x.Memory) x.Guests), (mkIntS (k + cntIntSS x.Memory + cntGuestS x.Guests) x.Outs), (k + cntIntSS x.Memory + cntGuestS x.Guests + cntIntS x.Outs)⟩
def cntEBare (x : VBare) : Int := cntIntSS x.Memory + cntGuestS x.Guests + cntIntS x.Outs + 1
theorem cntEBare_nn (x : VBare) : 0 ≤ cntEBare x := by
  have := cntIntSS_nn x.Memory
  have := cntGuestS_nn x.Guests
  have := cntIntS_nn x.Outs
  unfold cntEBare
  omega
def mkVBare (k : Int) (x : VBare) : VBare := ⟨(mkIntSS (k) x.Memory), (mkGuestS (k + cntIntSS x.Memory) x.Guests), (mkIntS (k + cntIntSS x.Memory + cntGuestS x.Guests) x.Outs), x.Pending⟩
def cntVBare (x : VBare) : Int := cntIntSS x.Memory + cntGuestS x.Guests + cntIntS x.Outs
theorem cntVBare_nn (x : VBare) : 0 ≤ cntVBare x := by
  have := cntIntSS_nn x.Memory
  have := cntGuestS_nn x.Guests
  have := cntIntS_nn x.Outs
  unfold cntVBare
  omega
def mkEStr (k : Int) (_ : ByteArray) : ByteArray := mText k
def cntEStr (_ : ByteArray) : Int := 1
theorem cntEStr_nn (x : ByteArray) : 0 ≤ cntEStr x := by simp [cntEStr]
def SmStrS (xs : List ByteArray) : Prop := xs.length ≤ 2097152
def mkStrS (k : Int) (xs : List ByteArray) : List ByteArray := mkFold mkEStr cntEStr k xs
def cntStrS (xs : List ByteArray) : Int := cntFold cntEStr xs
theorem cntStrS_nn (xs : List ByteArray) : 0 ≤ cntStrS xs := cntFold_nn cntEStr_nn xs
theorem mkStrS_len (k : Int) (xs : List ByteArray) : (mkStrS k xs).length = xs.length := mkFold_len _ _ _ _
abbrev mkEStrS := mkStrS
abbrev cntEStrS := cntStrS
theorem cntEStrS_nn (xs : List ByteArray) : 0 ≤ cntEStrS xs := cntStrS_nn xs
def szIntSS (xs : List (List Int)) (n : Int) : Int := if n - xs.length < 0 then -1 else szFold szIntS xs (n - xs.length)
theorem szIntSS_ok (xs : List (List Int)) (n : Int) (h : 0 ≤ szIntSS xs n) : szIntSS xs n ≤ n ∧ (n ≤ 1048576 → SmIntSS xs) := by
  unfold szIntSS at h ⊢
  split at h
  · omega
  · rename_i h0
    rw [if_neg h0]
    obtain ⟨h1, h2⟩ := szFold_ok szIntS_ok xs _ h
    exact ⟨by omega, fun hn => ⟨by omega, h2 (by omega)⟩⟩
def szGuestS (xs : List VGuest) (n : Int) : Int := if n - xs.length < 0 then -1 else szFold szGuest xs (n - xs.length)
theorem szGuestS_ok (xs : List VGuest) (n : Int) (h : 0 ≤ szGuestS xs n) : szGuestS xs n ≤ n ∧ (n ≤ 1048576 → SmGuestS xs) := by
  unfold szGuestS at h ⊢
  split at h
  · omega
  · rename_i h0
    rw [if_neg h0]
    obtain ⟨h1, h2⟩ := szFold_ok szGuest_ok xs _ h
    exact ⟨by omega, fun hn => ⟨by omega, h2 (by omega)⟩⟩
def szBare (x : VBare) (n : Int) : Int := szThen [szIntSS x.Memory, szGuestS x.Guests, szIntS x.Outs] n
theorem szBare_ok (x : VBare) (n : Int) (h : 0 ≤ szBare x n) : szBare x n ≤ n ∧ (n ≤ 1048576 → SmBare x) := by
  unfold szBare at h ⊢
  simp only [szThen] at h ⊢
  have e0 := szIntSS_ok x.Memory (n)
  have e1 := szGuestS_ok x.Guests (szIntSS x.Memory (n))
  have e2 := szIntS_ok x.Outs (szGuestS x.Guests (szIntSS x.Memory (n)))
  repeat' split at h
  all_goals (try omega)
  simp only [*, if_false]
  simp only [Int.not_lt] at *
  refine ⟨by omega, fun hn => ⟨by exact (e0 (by omega)).2 (by omega), by exact (e1 (by omega)).2 (by omega), by exact (e2 (by omega)).2 (by omega)⟩⟩
theorem szIntSS_le (x : List (List Int)) (n : Int) (h : 0 ≤ n) : szIntSS x n ≤ n := by
  by_cases g : 0 ≤ szIntSS x n
  · exact (szIntSS_ok x n g).1
  · omega
theorem szGuestS_le (x : List VGuest) (n : Int) (h : 0 ≤ n) : szGuestS x n ≤ n := by
  by_cases g : 0 ≤ szGuestS x n
  · exact (szGuestS_ok x n g).1
  · omega
theorem szBare_le (x : VBare) (n : Int) (h : 0 ≤ n) : szBare x n ≤ n := by
  by_cases g : 0 ≤ szBare x n
  · exact (szBare_ok x n g).1
  · omega
theorem szFold_cnt {α : Type} {f : α → Int → Int} {c : α → Int} (h : ∀ x n, 0 ≤ f x n → c x ≤ 32 * (n - f x n) + 32) : ∀ (xs : List α) (n : Int), 0 ≤ szFold f xs n → cntFold c xs ≤ 32 * (n - szFold f xs n) + 32 * xs.length
  | [], n, _ => by simp [szFold, cntFold]
  | x :: l, n, hn => by
    unfold szFold at hn ⊢
    split at hn
    · omega
    · rename_i h0
      rw [if_neg h0]
      have h1 := h x n (by omega)
      have h2 := szFold_cnt h l _ hn
      simp only [cntFold, List.length_cons]
      omega
theorem cntFold_flat {α : Type} {c : α → Int} (h : ∀ x, c x ≤ 32) : ∀ (xs : List α), cntFold c xs ≤ 32 * xs.length
  | [] => by simp [cntFold]
  | x :: l => by
    have h1 := h x
    have h2 := cntFold_flat h l
    simp only [cntFold, List.length_cons]
    omega

theorem szIntS_cnt (xs : List Int) (n : Int) (h : 0 ≤ szIntS xs n) : cntIntS xs ≤ 32 * (n - szIntS xs n) := by
  unfold szIntS at h ⊢
  split at h
  · omega
  · rename_i h0
    rw [if_neg h0]
    have := cntFold_flat (c := cntEInt) (fun x => by simp [cntEInt]) xs
    unfold cntIntS
    omega
theorem szIntS_cntE (xs : List Int) (n : Int) (h : 0 ≤ szIntS xs n) : cntEIntS xs ≤ 32 * (n - szIntS xs n) + 32 := by
  have := szIntS_cnt xs n h
  show cntIntS xs ≤ _
  omega
theorem szIntSS_cnt (xs : List (List Int)) (n : Int) (h : 0 ≤ szIntSS xs n) : cntIntSS xs ≤ 32 * (n - szIntSS xs n) := by
  unfold szIntSS at h ⊢
  split at h
  · omega
  · rename_i h0
    rw [if_neg h0]
    have := szFold_cnt (c := cntEIntS) (fun x n hx => szIntS_cntE x n hx) xs _ h
    unfold cntIntSS
    omega
theorem szIntSS_cntE (xs : List (List Int)) (n : Int) (h : 0 ≤ szIntSS xs n) : cntEIntSS xs ≤ 32 * (n - szIntSS xs n) + 32 := by
  have := szIntSS_cnt xs n h
  show cntIntSS xs ≤ _
  omega
theorem szInsS_cnt (xs : List VIns) (n : Int) (h : 0 ≤ szInsS xs n) : cntInsS xs ≤ 32 * (n - szInsS xs n) := by
  unfold szInsS at h ⊢
  split at h
  · omega
  · rename_i h0
    rw [if_neg h0]
    have := cntFold_flat (c := cntEIns) (fun x => by simp [cntEIns]) xs
    unfold cntInsS
    omega
theorem szInsS_cntE (xs : List VIns) (n : Int) (h : 0 ≤ szInsS xs n) : cntEInsS xs ≤ 32 * (n - szInsS xs n) + 32 := by
  have := szInsS_cnt xs n h
  show cntInsS xs ≤ _
  omega
theorem szSlotS_cnt (xs : List VSlot) (n : Int) (h : 0 ≤ szSlotS xs n) : cntSlotS xs ≤ 32 * (n - szSlotS xs n) := by
  unfold szSlotS at h ⊢
  split at h
  · omega
  · rename_i h0
    rw [if_neg h0]
    have := cntFold_flat (c := cntESlot) (fun x => by simp [cntESlot]) xs
    unfold cntSlotS
    omega
theorem szSlotS_cntE (xs : List VSlot) (n : Int) (h : 0 ≤ szSlotS xs n) : cntESlotS xs ≤ 32 * (n - szSlotS xs n) + 32 := by
  have := szSlotS_cnt xs n h
  show cntSlotS xs ≤ _
  omega
theorem szGuest_cntE (x : VGuest) (n : Int) (h : 0 ≤ szGuest x n) : cntEGuest x ≤ 32 * (n - szGuest x n) + 32 := by
  unfold szGuest at h ⊢
  simp only [szThen] at h ⊢
  have e0 := szInsS_cnt x.Prog (n)
  have e1 := szSlotS_cnt x.Written (szInsS x.Prog (n))
  have e2 := szSlotS_cnt x.Live (szSlotS x.Written (szInsS x.Prog (n)))
  have e3 := szIntS_cnt x.Seen (szSlotS x.Live (szSlotS x.Written (szInsS x.Prog (n))))
  repeat' split at h
  all_goals (try omega)
  simp only [*, if_false]
  simp only [Int.not_lt] at *
  unfold cntEGuest
  have e0 := e0 (by omega)
  have e1 := e1 (by omega)
  have e2 := e2 (by omega)
  have e3 := e3 (by omega)
  omega
theorem szGuest_cntV (x : VGuest) (n : Int) (h : 0 ≤ szGuest x n) : cntVGuest x ≤ 32 * (n - szGuest x n) := by
  unfold szGuest at h ⊢
  simp only [szThen] at h ⊢
  have e0 := szInsS_cnt x.Prog (n)
  have e1 := szSlotS_cnt x.Written (szInsS x.Prog (n))
  have e2 := szSlotS_cnt x.Live (szSlotS x.Written (szInsS x.Prog (n)))
  have e3 := szIntS_cnt x.Seen (szSlotS x.Live (szSlotS x.Written (szInsS x.Prog (n))))
  repeat' split at h
  all_goals (try omega)
  simp only [*, if_false]
  simp only [Int.not_lt] at *
  unfold cntVGuest
  have e0 := e0 (by omega)
  have e1 := e1 (by omega)
  have e2 := e2 (by omega)
  have e3 := e3 (by omega)
  omega
theorem szGuestS_cnt (xs : List VGuest) (n : Int) (h : 0 ≤ szGuestS xs n) : cntGuestS xs ≤ 32 * (n - szGuestS xs n) := by
  unfold szGuestS at h ⊢
  split at h
  · omega
  · rename_i h0
    rw [if_neg h0]
    have := szFold_cnt (c := cntEGuest) (fun x n hx => szGuest_cntE x n hx) xs _ h
    unfold cntGuestS
    omega
theorem szGuestS_cntE (xs : List VGuest) (n : Int) (h : 0 ≤ szGuestS xs n) : cntEGuestS xs ≤ 32 * (n - szGuestS xs n) + 32 := by
  have := szGuestS_cnt xs n h
  show cntGuestS xs ≤ _
  omega
theorem szBare_cntE (x : VBare) (n : Int) (h : 0 ≤ szBare x n) : cntEBare x ≤ 32 * (n - szBare x n) + 32 := by
  unfold szBare at h ⊢
  simp only [szThen] at h ⊢
  have e0 := szIntSS_cnt x.Memory (n)
  have e1 := szGuestS_cnt x.Guests (szIntSS x.Memory (n))
  have e2 := szIntS_cnt x.Outs (szGuestS x.Guests (szIntSS x.Memory (n)))
  repeat' split at h
  all_goals (try omega)
  simp only [*, if_false]
  simp only [Int.not_lt] at *
  unfold cntEBare
  have e0 := e0 (by omega)
  have e1 := e1 (by omega)
  have e2 := e2 (by omega)
  omega
theorem szBare_cntV (x : VBare) (n : Int) (h : 0 ≤ szBare x n) : cntVBare x ≤ 32 * (n - szBare x n) := by
  unfold szBare at h ⊢
  simp only [szThen] at h ⊢
  have e0 := szIntSS_cnt x.Memory (n)
  have e1 := szGuestS_cnt x.Guests (szIntSS x.Memory (n))
  have e2 := szIntS_cnt x.Outs (szGuestS x.Guests (szIntSS x.Memory (n)))
  repeat' split at h
  all_goals (try omega)
  simp only [*, if_false]
  simp only [Int.not_lt] at *
  unfold cntVBare
  have e0 := e0 (by omega)
  have e1 := e1 (by omega)
  have e2 := e2 (by omega)
  omega
-- loop.example/g00975/laws.markText: params ['int'] results ['string'] ('arr', [('app', 'Go.ResultVar.tmp', ['2'])])
theorem laws_markText_f (k : Int) (h1 : 0 ≤ k) (h2 : k ≤ 1000000000000000) : Fun Tryd.prog 67 [I k] (RV (.string (mText k))) := by
  refine Fun.of Tryd.func67 rfl (by simp [Tryd.ntmps67]) fun w g0 => ?_
  simp only [Tryd.ntmps67, List.length_cons, List.length_nil, Nat.reduceAdd, Nat.reduceSub, List.replicate, List.cons_append, List.nil_append]
  refine TC.seq ?_
  -- region 0
  refine TC.region ?_
  refine TL.valE rfl (Val.assign 1 rfl rfl) (by simp only [St.put, List.set_cons_succ, List.set_cons_zero]; rfl) ?_
  refine TL.nil ?_
  show TC _ _ _ _ _ _
  refine TC.seq ?_
  refine TC.seq ?_
  -- region 1
  refine TC.region ?_
  refine TL.valE rfl (Val.move 1 rfl rfl) (by simp only [St.put, List.set_cons_succ, List.set_cons_zero]; rfl) ?_
  refine TL.valE rfl (Val.leq rfl rfl rfl) (by simp only [St.put, List.set_cons_succ, List.set_cons_zero]; rfl) ?_
  refine TL.nil ?_
  show TC _ _ _ _ _ _
  refine TC.cond rfl (fun hb => ?_) (fun hb => ?_)
  · refine TC.seq ?_
    -- region 2
    refine TC.region ?_
    refine TL.valE rfl (Val.assign 1 rfl rfl) (by simp only [St.put, List.set_cons_succ, List.set_cons_zero]; rfl) ?_
    refine TL.nil ?_
    show TC _ _ _ _ _ _
    refine TC.ret ?_
    exact ⟨.inr rfl, [_], [_], _, rfl, by decide, rfl, by simp [refV, refC, valC], rfl, resV (by unfold mText; rw [if_pos (by simpa using hb)])⟩
  · refine TC.skip ?_
    show TC _ _ _ _ _ _
    refine TC.seq ?_
    have hk0 : ¬ k ≤ 0 := by simpa using hb
    -- region 3
    refine TC.region ?_
    refine TL.valE rfl (Val.assign 1 rfl rfl) (by simp only [St.put, List.set_cons_succ, List.set_cons_zero]; rfl) ?_
    refine TL.nil ?_
    show TC _ _ _ _ _ _
    refine TC.seq ?_
    refine TC.block ?_
    refine TC.loop (fun μ st => ∃ (v : Int) (s : ByteArray), (0 ≤ v ∧ v ≤ k ∧ str (pdec k.natAbs) = str (pdec v.natAbs) ++ s) ∧ μ = v.natAbs ∧ Can st ⟨[I v, .one .dead, .one .dead, S s, .one .dead, .one .dead, .one .dead, .one .dead, .one .dead, .one .dead, .one .dead, .one .dead, .one .dead, .one .dead, .one .dead, .one .dead, .one .dead, .one .dead, .one .dead, .one .dead], []⟩) (k.natAbs) ?_ fun μ st hI => ?_
    · refine ⟨k, ⟨#[]⟩, ⟨h1, by omega, by apply ByteArray.ext; simp⟩, rfl, ?_⟩
      exact Can.to (by repeat first | exact LessT.nil | refine LessT.drop ?_ | refine LessT.keep ?_ | refine LessT.eq (by simp) ?_) (by repeat first | exact .nil | refine .cons rfl rfl ?_)
    · obtain ⟨v, s, hyp, rfl, hcan⟩ := hI
      refine TC.can hcan ?_
      clear hcan
      refine TC.seq ?_
      refine TC.seq ?_
      -- region 4
      refine TC.region ?_
      refine TL.valE rfl (Val.move 1 rfl rfl) (by simp only [St.put, List.set_cons_succ, List.set_cons_zero]; rfl) ?_
      refine TL.valE rfl (Val.gtr rfl rfl rfl) (by simp only [St.put, List.set_cons_succ, List.set_cons_zero]; rfl) ?_
      refine TL.nil ?_
      show TC _ _ _ _ _ _
      refine TC.cond rfl (fun hb => ?_) (fun hb => ?_)
      · refine TC.skip ?_
        show TC _ _ _ _ _ _
        refine TC.block ?_
        refine TC.seq ?_
        have hv : 0 < v := by simpa using hb
        have hsz := mText_size hyp.2.2 (by omega)
        have hq := tdiv_le (v := v)
        have hr := tmod_abs (v := v)
        have hp : 0 ≤ v.tmod 10 := Int.tmod_nonneg 10 hyp.1
        have hd0 : 0 ≤ v.tdiv 10 := Int.tdiv_nonneg hyp.1 (by omega)
        -- region 5
        refine TC.region ?_
        refine TL.valE rfl (Val.move 1 rfl rfl) (by simp only [St.put, List.set_cons_succ, List.set_cons_zero]; rfl) ?_
        refine TL.valE rfl (by exact Val.rem rfl rfl rfl (by decide)) (by simp only [St.put, List.set_cons_succ, List.set_cons_zero]; rfl) ?_
        refine TL.valE rfl (Val.add rfl rfl rfl (by first | omega | (simp only [List.length_map]; omega)) (by first | omega | (simp only [List.length_map]; omega))) (by simp only [St.put, List.set_cons_succ, List.set_cons_zero]; rfl) ?_
        refine TL.valE rfl (by exact Val.conv rfl rfl rfl rfl rfl (k' := .u8) (b := 48 + v.tmod 10) (wrap_u8 (by omega) (by omega))) (by simp only [St.put, List.set_cons_succ, List.set_cons_zero]; rfl) ?_
        refine TL.opK rfl fun K hK => ?_
        refine OpT.buildP rfl rfl (xs := [(Go.Operand.tmp 11)]) rfl rfl rfl rfl (sz := 1) rfl rfl rfl (by decide) (by decide) ?_ -- 12
        simp only [St.fresh, St.kill, St.setRoot, St.put, St.renew, TS.kill, TV.kill, C.kill, Rt.kill, boxC, List.map_cons, List.map_nil, List.filter_cons, List.filter_nil, List.set_cons_succ, List.set_cons_zero, List.contains_cons, List.contains_nil, Nat.reduceBEq, Nat.reduceBNe, St.wrote, hitR, hitP, shapeOf, List.isPrefixOf, List.append_eq, Bool.and_true, Bool.true_and, Bool.and_false, Bool.false_and, List.nil_append, List.cons_append, beq_self_eq_true, bne_self_eq_false, Bool.or_false, Bool.or_true, Bool.not_true, Bool.not_false, Bool.false_eq_true, if_true, if_false, reduceIte, resT, valsD, refsD, refD, nextD, nextsD, cellsD, isSl, List.append_nil]
        refine hK _ ?_
        clear hK K
        refine TL.valE rfl (by exact Val.bytesStr (ns := [48 + v.tmod 10]) rfl rfl rfl rfl rfl rfl) (by simp only [St.put, List.set_cons_succ, List.set_cons_zero]; rfl) ?_
        refine TL.valE rfl (Val.move 1 rfl rfl) (by simp only [St.put, List.set_cons_succ, List.set_cons_zero]; rfl) ?_
        refine TL.valE rfl (Val.addS rfl rfl rfl (by first | decide | omega | (simp [lit_size, ByteArray.size_append, strOfNums_size]; omega))) (by simp only [St.put, List.set_cons_succ, List.set_cons_zero]; rfl) ?_
        refine TL.valE rfl (Val.assign 1 rfl rfl) (by simp only [St.put, List.set_cons_succ, List.set_cons_zero]; rfl) ?_
        refine TL.nil ?_
        show TC _ _ _ _ _ _
        -- region 6
        refine TC.region ?_
        refine TL.valE rfl (Val.move 1 rfl rfl) (by simp only [St.put, List.set_cons_succ, List.set_cons_zero]; rfl) ?_
        refine TL.valE rfl (by exact Val.quo rfl rfl rfl (by decide) (by omega) (by omega)) (by simp only [St.put, List.set_cons_succ, List.set_cons_zero]; rfl) ?_
        refine TL.valE rfl (Val.assign 1 rfl rfl) (by simp only [St.put, List.set_cons_succ, List.set_cons_zero]; rfl) ?_
        refine TL.nil ?_
        first | refine Seq.normal ⟨_, ?_, v.tdiv 10, strOfNums [48 + v.tmod 10] ++ s, ?_, rfl, ?_⟩ | refine Seq.normal (Q := fun _ _ => True) ⟨_, ?_, v.tdiv 10, strOfNums [48 + v.tmod 10] ++ s, ?_, rfl, ?_⟩
        · omega
        · exact ⟨hd0, by omega, by rw [hyp.2.2]; exact mText_step hv s⟩
        · exact Can.to (by repeat first | exact LessT.nil | refine LessT.drop ?_ | refine LessT.keep ?_ | refine LessT.eq (by simp) ?_) (by repeat first | exact .nil | refine .cons rfl rfl ?_)
      · refine TC.exit ?_
        -- exit 0
        show TC _ _ _ _ _ _
        refine TC.seq ?_
        obtain rfl : v = 0 := by simp at hb; omega
        have hsz := mText_size hyp.2.2 (by omega)
        -- region 7
        refine TC.region ?_
        refine TL.valE rfl (Val.move 1 rfl rfl) (by simp only [St.put, List.set_cons_succ, List.set_cons_zero]; rfl) ?_
        refine TL.valE rfl (Val.addS rfl rfl rfl (by first | decide | omega | (simp [lit_size, ByteArray.size_append, strOfNums_size]; omega))) (by simp only [St.put, List.set_cons_succ, List.set_cons_zero]; rfl) ?_
        refine TL.valE rfl (Val.assign 1 rfl rfl) (by simp only [St.put, List.set_cons_succ, List.set_cons_zero]; rfl) ?_
        refine TL.nil ?_
        show TC _ _ _ _ _ _
        refine TC.ret ?_
        exact ⟨.inr rfl, [_], [_], _, rfl, by decide, rfl, by simp [refV, refC, valC], rfl, resV (by unfold mText; rw [if_neg hk0, hyp.2.2]; simp [pdec, str]; apply ByteArray.ext; simp)⟩

-- loop.example/g00975/laws.markIntS: params ['[]int', 'int'] results ['int'] ('arr', [('app', 'Go.ResultVar.tmp', ['4'])])
theorem laws_markIntS_f (xs : List Int) (k : Int) (h1 : 0 ≤ k) (h2 : k + cntIntS xs ≤ 1000000000000000) (hmx : SmIntS xs) : Fun2 Tryd.prog 66 (⟨false, [.sl 1 (xs.map dInt)]⟩) [.one (.c (.ref ⟨1000000, [], 0⟩)), I k] (RP2 [.sl 1 ((mkIntS k xs).map dInt)] (I (k + cntIntS xs))) := by
  refine Fun2.of Tryd.func66 rfl (by simp [Tryd.ntmps66]) fun w g0 => ?_
  simp only [Tryd.ntmps66, List.length_cons, List.length_nil, Nat.reduceAdd, Nat.reduceSub, List.replicate, List.cons_append, List.nil_append, Hand.k, pinK, pinB, if_true, if_false, Bool.false_eq_true, List.map_cons, List.map_nil]
  refine TC.seq ?_
  -- region 0
  refine TC.region ?_
  refine TL.valE rfl (Val.assign 1 rfl rfl) (by simp only [St.put, List.set_cons_succ, List.set_cons_zero]; rfl) ?_
  refine TL.nil ?_
  show TC _ _ _ _ _ _
  refine TC.seq ?_
  refine TC.seq ?_
  -- region 1
  refine TC.region ?_
  refine TL.valE rfl (Val.assign 1 rfl rfl) (by simp only [St.put, List.set_cons_succ, List.set_cons_zero]; rfl) ?_
  refine TL.nil ?_
  show TC _ _ _ _ _ _
  refine TC.block ?_
  refine TC.loop (fun μ st => ∃ i : Nat, (i ≤ xs.length) ∧ μ = xs.length - i ∧ Can st ⟨[.one (.c (.ref ⟨1000000, [], 0⟩)), I (k + cntFold cntEInt (xs.take i)), .one .dead, .one .dead, .one .dead, I i, .one .dead, .one .dead, .one .dead, .one .dead, .one .dead, .one .dead, .one .dead, .one .dead, .one .dead, .one .dead, .one .dead, .one .dead, .one .dead], [(1000000, ⟨false, [.own (.sl 1 ((mix (mkIntS k xs) xs i).map dInt))]⟩)]⟩) (xs.length) ?_ fun μ st hI => ?_
  · refine ⟨0, by simp, by simp, ?_⟩
    exact Can.to (by repeat first | exact LessT.nil | refine LessT.drop ?_ | refine LessT.keep ?_ | refine LessT.eq (by simp [cntFold]) ?_) (.cons rfl (by simp [mix_zero]) .nil)
  · obtain ⟨i, hyp, rfl, hcan⟩ := hI
    refine TC.can hcan ?_
    clear hcan
    refine TC.seq ?_
    refine TC.seq ?_
    -- region 2
    refine TC.region ?_
    refine TL.valE rfl (Val.move 1 rfl rfl) (by simp only [St.put, List.set_cons_succ, List.set_cons_zero]; rfl) ?_
    refine TL.valE rfl (Val.move 1 rfl rfl) (by simp only [St.put, List.set_cons_succ, List.set_cons_zero]; rfl) ?_
    refine TL.valE rfl (by first | exact Val.len rfl rfl rfl rfl | exact Val.lenS rfl rfl rfl) (by simp only [St.put, List.set_cons_succ, List.set_cons_zero]; rfl) ?_
    refine TL.valE rfl (Val.lss rfl rfl rfl) (by simp only [St.put, List.set_cons_succ, List.set_cons_zero]; rfl) ?_
    refine TL.nil ?_
    show TC _ _ _ _ _ _
    refine TC.cond rfl (fun hb => ?_) (fun hb => ?_)
    · refine TC.skip ?_
      show TC _ _ _ _ _ _
      refine TC.seq ?_
      refine TC.block ?_
      refine TC.seq ?_
      have hi : i < xs.length := by simpa [mix_len (mkIntS_len k xs)] using hb
      have hlen : xs.length ≤ 2097152 := Nat.le_trans (show xs.length ≤ 1048576 from hmx) (by decide)
      obtain ⟨x, hx⟩ := at_of (xs := xs) (k := i) hi
      have hcs := cntFold_step (c := cntEInt) hx
      have hc1 := cntFold_le cntEInt_nn xs (i + 1)
      have hc0 := cntFold_nn cntEInt_nn (xs.take i)
      have hcd : cntFold cntEInt xs = cntIntS xs := rfl
      have hg : ((mix (mkIntS k xs) xs i).map dInt)[i]? = some (dInt x) := by simp [List.getElem?_map, mix_get (mkIntS_len k xs), hx]
      have hs : ((mix (mkIntS k xs) xs i).map dInt).set i (dInt (mkEInt (k + cntFold cntEInt (xs.take i)) x)) = ((mix (mkIntS k xs) xs (i + 1)).map dInt) := by rw [← mix_set (mkIntS_len k xs) (mkFold_get mkEInt cntEInt k hx), List.map_set]
      have hLl : ((mix (mkIntS k xs) xs i).map dInt).length = xs.length := by simp [mix_len (mkIntS_len k xs)]
      generalize ((mix (mkIntS k xs) xs i).map dInt) = L at *
      simp only [dInt, mkEInt, cntEInt] at hg hs hcs
      generalize hKI : cntFold cntEInt (xs.take i) = m at *
      -- region 4
      refine TC.region ?_
      refine TL.valE rfl (Val.move 1 rfl rfl) (by simp only [St.put, List.set_cons_succ, List.set_cons_zero]; rfl) ?_
      refine TL.valE rfl (Val.move 1 rfl rfl) (by simp only [St.put, List.set_cons_succ, List.set_cons_zero]; rfl) ?_
      refine TL.valE rfl (Val.move 1 rfl rfl) (by simp only [St.put, List.set_cons_succ, List.set_cons_zero]; rfl) ?_
      refine TL.valE rfl (by exact Val.index rfl rfl rfl rfl rfl rfl (by omega) (by simp [hLl]; omega)) (by simp only [St.put, List.set_cons_succ, List.set_cons_zero]; rfl) ?_
      refine TL.opK rfl fun K hK => ?_
      refine OpT.store (z := 1) rfl rfl rfl rfl (by simp [St.store1, St.storeAll, St.cellAt, St.isMem, St.root, St.wrote, St.kill, St.setRoot, TS.kill, TV.kill, C.kill, Rt.kill, hitR, hitP, shapeOf, setRow, setAt, rowAt, D.row, D.reRow, List.isPrefixOf, St.nest, St.kill, St.setRoot, St.root, List.getElem?_set_self', List.set_set, hg]; rfl) rfl (by simp [St.store1, St.storeAll, St.cellAt, St.isMem, St.root, St.wrote, St.kill, St.setRoot, TS.kill, TV.kill, C.kill, Rt.kill, hitR, hitP, shapeOf, setRow, setAt, rowAt, D.row, D.reRow, List.isPrefixOf, St.nest, St.kill, St.setRoot, St.root, List.getElem?_set_self', List.set_set, hg]; rfl) ?_
      simp only [St.fresh, St.kill, St.setRoot, St.put, St.renew, TS.kill, TV.kill, C.kill, Rt.kill, boxC, List.map_cons, List.map_nil, List.filter_cons, List.filter_nil, List.set_cons_succ, List.set_cons_zero, List.contains_cons, List.contains_nil, Nat.reduceBEq, Nat.reduceBNe, St.wrote, hitR, hitP, shapeOf, List.isPrefixOf, List.append_eq, Bool.and_true, Bool.true_and, Bool.and_false, Bool.false_and, List.nil_append, List.cons_append, beq_self_eq_true, bne_self_eq_false, Bool.or_false, Bool.or_true, Bool.not_true, Bool.not_false, Bool.false_eq_true, if_true, if_false, reduceIte, resT, valsD, refsD, refD, nextD, nextsD, cellsD, isSl, List.append_nil]
      refine hK _ ?_
      clear hK K
      refine TL.nil ?_
      show TC _ _ _ _ _ _
      -- region 5
      refine TC.region ?_
      refine TL.valE rfl (Val.move 1 rfl rfl) (by simp only [St.put, List.set_cons_succ, List.set_cons_zero]; rfl) ?_
      refine TL.valE rfl (Val.add rfl rfl rfl (by first | omega | (simp only [List.length_map]; omega)) (by first | omega | (simp only [List.length_map]; omega))) (by simp only [St.put, List.set_cons_succ, List.set_cons_zero]; rfl) ?_
      refine TL.valE rfl (Val.assign 1 rfl rfl) (by simp only [St.put, List.set_cons_succ, List.set_cons_zero]; rfl) ?_
      refine TL.nil ?_
      show TC _ _ _ _ _ _
      -- region 3
      refine TC.region ?_
      refine TL.valE rfl (Val.move 1 rfl rfl) (by simp only [St.put, List.set_cons_succ, List.set_cons_zero]; rfl) ?_
      refine TL.valE rfl (Val.add rfl rfl rfl (by first | omega | (simp only [List.length_map]; omega)) (by first | omega | (simp only [List.length_map]; omega))) (by simp only [St.put, List.set_cons_succ, List.set_cons_zero]; rfl) ?_
      refine TL.valE rfl (Val.assign 1 rfl rfl) (by simp only [St.put, List.set_cons_succ, List.set_cons_zero]; rfl) ?_
      refine TL.nil ?_
      first | refine Seq.normal ⟨_, ?_, i + 1, ?_, rfl, ?_⟩ | refine Seq.normal (Q := fun _ _ => True) ⟨_, ?_, i + 1, ?_, rfl, ?_⟩
      · omega
      · omega
      · exact Can.to (by repeat first | exact LessT.nil | refine LessT.drop ?_ | refine LessT.keep ?_ | refine LessT.eq (by first | rfl | (simp; done) | exact congrArg (fun z : Int => (I z : TS)) (by rw [hcs]; omega) | exact congrArg (fun z : Int => (I z : TS)) (by omega)) ?_) (.cons rfl (by simp [hs]) .nil)
    · refine TC.exit ?_
      -- exit 0
      show TC _ _ _ _ _ _
      refine TC.seq ?_
      have hn : i = xs.length := (by simp [mix_len (mkIntS_len k xs)] at hb; omega)
      subst hn
      rw [mix_all (mkIntS_len k xs) (Nat.le_refl _), List.take_length]
      -- region 6
      refine TC.region ?_
      refine TL.valE rfl (Val.move 1 rfl rfl) (by simp only [St.put, List.set_cons_succ, List.set_cons_zero]; rfl) ?_
      refine TL.valE rfl (Val.assign 1 rfl rfl) (by simp only [St.put, List.set_cons_succ, List.set_cons_zero]; rfl) ?_
      refine TL.nil ?_
      show TC _ _ _ _ _ _
      refine TC.ret ?_
      exact ⟨.inr rfl, [_], [_], _, [.sl 1 ((mkIntS k xs).map dInt)], rfl, by decide, rfl, by simp [refV, refC, valC], rfl, rfl, by simp, rfl, ⟨rfl, rfl⟩⟩

-- loop.example/g00975/laws.markIntSS: params ['[][]int', 'int'] results ['int'] ('arr', [('app', 'Go.ResultVar.tmp', ['4'])])
theorem laws_markIntSS_f (xs : List (List Int)) (k : Int) (h1 : 0 ≤ k) (h2 : k + cntIntSS xs ≤ 1000000000000000) (hmx : SmIntSS xs) : Fun2 Tryd.prog 64 (⟨false, [.sl 1 (xs.map dIntS)]⟩) [.one (.c (.ref ⟨1000000, [], 0⟩)), I k] (RP2 [.sl 1 ((mkIntSS k xs).map dIntS)] (I (k + cntIntSS xs))) := by
  refine Fun2.of Tryd.func64 rfl (by simp [Tryd.ntmps64]) fun w g0 => ?_
  simp only [Tryd.ntmps64, List.length_cons, List.length_nil, Nat.reduceAdd, Nat.reduceSub, List.replicate, List.cons_append, List.nil_append, Hand.k, pinK, pinB, if_true, if_false, Bool.false_eq_true, List.map_cons, List.map_nil]
  refine TC.seq ?_
  -- region 0
  refine TC.region ?_
  refine TL.valE rfl (Val.assign 1 rfl rfl) (by simp only [St.put, List.set_cons_succ, List.set_cons_zero]; rfl) ?_
  refine TL.nil ?_
  show TC _ _ _ _ _ _
  refine TC.seq ?_
  refine TC.seq ?_
  -- region 1
  refine TC.region ?_
  refine TL.valE rfl (Val.assign 1 rfl rfl) (by simp only [St.put, List.set_cons_succ, List.set_cons_zero]; rfl) ?_
  refine TL.nil ?_
  show TC _ _ _ _ _ _
  refine TC.block ?_
  refine TC.loop (fun μ st => ∃ i : Nat, (i ≤ xs.length) ∧ μ = xs.length - i ∧ Can st ⟨[.one (.c (.ref ⟨1000000, [], 0⟩)), I (k + cntFold cntIntS (xs.take i)), .one .dead, .one .dead, .one .dead, I i, .one .dead, .one .dead, .one .dead, .one .dead, .one .dead, .one .dead, .one .dead, .one .dead, .one .dead, .one .dead, .one .dead, .one .dead, .one .dead], [(1000000, ⟨false, [.own (.sl 1 ((mix (mkIntSS k xs) xs i).map dIntS))]⟩)]⟩) (xs.length) ?_ fun μ st hI => ?_
  · refine ⟨0, by simp, by simp, ?_⟩
    exact Can.to (by repeat first | exact LessT.nil | refine LessT.drop ?_ | refine LessT.keep ?_ | refine LessT.eq (by simp [cntFold]) ?_) (.cons rfl (by simp [mix_zero]) .nil)
  · obtain ⟨i, hyp, rfl, hcan⟩ := hI
    refine TC.can hcan ?_
    clear hcan
    refine TC.seq ?_
    refine TC.seq ?_
    -- region 2
    refine TC.region ?_
    refine TL.valE rfl (Val.move 1 rfl rfl) (by simp only [St.put, List.set_cons_succ, List.set_cons_zero]; rfl) ?_
    refine TL.valE rfl (Val.move 1 rfl rfl) (by simp only [St.put, List.set_cons_succ, List.set_cons_zero]; rfl) ?_
    refine TL.valE rfl (by first | exact Val.len rfl rfl rfl rfl | exact Val.lenS rfl rfl rfl) (by simp only [St.put, List.set_cons_succ, List.set_cons_zero]; rfl) ?_
    refine TL.valE rfl (Val.lss rfl rfl rfl) (by simp only [St.put, List.set_cons_succ, List.set_cons_zero]; rfl) ?_
    refine TL.nil ?_
    show TC _ _ _ _ _ _
    refine TC.cond rfl (fun hb => ?_) (fun hb => ?_)
    · refine TC.skip ?_
      show TC _ _ _ _ _ _
      refine TC.seq ?_
      refine TC.block ?_
      have hi : i < xs.length := by simpa [mix_len (mkIntSS_len k xs)] using hb
      have hlen : xs.length ≤ 2097152 := Nat.le_trans (show xs.length ≤ 1048576 from hmx.1) (by decide)
      obtain ⟨x, hx⟩ := at_of (xs := xs) (k := i) hi
      have hcs := cntFold_step (c := cntIntS) hx
      have hc1 := cntFold_le cntIntS_nn xs (i + 1)
      have hc0 := cntFold_nn cntIntS_nn (xs.take i)
      have hcd : cntFold cntIntS xs = cntIntSS xs := rfl
      have hsx : SmIntS x := hmx.2 x (List.mem_of_getElem? hx)
      have hn0 := cntIntS_nn x
      have hg : ((mix (mkIntSS k xs) xs i).map dIntS)[i]? = some (dIntS x) := by simp [List.getElem?_map, mix_get (mkIntSS_len k xs), hx]
      have hs : ((mix (mkIntSS k xs) xs i).map dIntS).set i (dIntS (mkIntS (k + cntFold cntIntS (xs.take i)) x)) = ((mix (mkIntSS k xs) xs (i + 1)).map dIntS) := by rw [← mix_set (mkIntSS_len k xs) (mkFold_get mkIntS cntIntS k hx), List.map_set]
      have hLl : ((mix (mkIntSS k xs) xs i).map dIntS).length = xs.length := by simp [mix_len (mkIntSS_len k xs)]
      generalize ((mix (mkIntSS k xs) xs i).map dIntS) = L at *
      simp only [dIntS] at hg hs
      generalize hKI : cntFold cntIntS (xs.take i) = m at *
      -- region 4
      refine TC.region ?_
      refine TL.valE rfl (Val.move 1 rfl rfl) (by simp only [St.put, List.set_cons_succ, List.set_cons_zero]; rfl) ?_
      refine TL.valE rfl (Val.move 1 rfl rfl) (by simp only [St.put, List.set_cons_succ, List.set_cons_zero]; rfl) ?_
      refine TL.valE rfl (by exact Val.index rfl rfl rfl rfl rfl rfl (by omega) (by simp [hLl]; omega)) (by simp only [St.put, List.set_cons_succ, List.set_cons_zero]; rfl) ?_
      refine TL.valE rfl (by exact Val.load rfl rfl rfl (c := .own (.sl 1 (x.map dInt))) (by simp [St.store1, St.storeAll, St.cellAt, St.isMem, St.root, St.wrote, St.kill, St.setRoot, TS.kill, TV.kill, C.kill, Rt.kill, hitR, hitP, shapeOf, setRow, setAt, rowAt, D.row, D.reRow, List.isPrefixOf, St.nest, St.kill, St.setRoot, St.root, List.getElem?_set_self', List.set_set, hg]; done) rfl) (by simp only [St.put, List.set_cons_succ, List.set_cons_zero, valC]; rfl) ?_
      refine TL.valE rfl (Val.move 1 rfl rfl) (by simp only [St.put, List.set_cons_succ, List.set_cons_zero]; rfl) ?_
      refine TL.callN (k1 := 1000000) (q0 := 0) (i0 := i) (j := 0) (yes_none rfl) rfl rfl rfl rfl rfl rfl (laws_markIntS_f x ((k + m)) (by omega) (by omega) hsx) rfl rfl (by simp [St.store1, St.storeAll, St.cellAt, St.isMem, St.root, St.wrote, St.kill, St.setRoot, TS.kill, TV.kill, C.kill, Rt.kill, hitR, hitP, shapeOf, setRow, setAt, rowAt, D.row, D.reRow, List.isPrefixOf, St.nest, St.kill, St.setRoot, St.root, List.getElem?_set_self', List.set_set, hg]; rfl) (by rfl) (by repeat first | exact .nil | refine GiveNs.cons (.ro _) ?_ | refine GiveNs.cons .it ?_) rfl (by simp [St.store1, St.storeAll, St.cellAt, St.isMem, St.root, St.wrote, St.kill, St.setRoot, TS.kill, TV.kill, C.kill, Rt.kill, hitR, hitP, shapeOf, setRow, setAt, rowAt, D.row, D.reRow, List.isPrefixOf, St.nest, St.kill, St.setRoot, St.root, List.getElem?_set_self', List.set_set, hg]; rfl) (by simp only [St.put, List.set_cons_succ, List.set_cons_zero]; rfl) ?_
      refine TL.valE rfl (Val.assign 1 rfl rfl) (by simp only [St.put, List.set_cons_succ, List.set_cons_zero]; rfl) ?_
      refine TL.nil ?_
      show TC _ _ _ _ _ _
      -- region 3
      refine TC.region ?_
      refine TL.valE rfl (Val.move 1 rfl rfl) (by simp only [St.put, List.set_cons_succ, List.set_cons_zero]; rfl) ?_
      refine TL.valE rfl (Val.add rfl rfl rfl (by first | omega | (simp only [List.length_map]; omega)) (by first | omega | (simp only [List.length_map]; omega))) (by simp only [St.put, List.set_cons_succ, List.set_cons_zero]; rfl) ?_
      refine TL.valE rfl (Val.assign 1 rfl rfl) (by simp only [St.put, List.set_cons_succ, List.set_cons_zero]; rfl) ?_
      refine TL.nil ?_
      first | refine Seq.normal ⟨_, ?_, i + 1, ?_, rfl, ?_⟩ | refine Seq.normal (Q := fun _ _ => True) ⟨_, ?_, i + 1, ?_, rfl, ?_⟩
      · omega
      · omega
      · exact Can.to (by repeat first | exact LessT.nil | refine LessT.drop ?_ | refine LessT.keep ?_ | refine LessT.eq (by first | rfl | (simp; done) | exact congrArg (fun z : Int => (I z : TS)) (by rw [hcs]; omega) | exact congrArg (fun z : Int => (I z : TS)) (by omega)) ?_) (.cons rfl (by simp [hs]) .nil)
    · refine TC.exit ?_
      -- exit 0
      show TC _ _ _ _ _ _
      refine TC.seq ?_
      have hn : i = xs.length := (by simp [mix_len (mkIntSS_len k xs)] at hb; omega)
      subst hn
      rw [mix_all (mkIntSS_len k xs) (Nat.le_refl _), List.take_length]
      -- region 5
      refine TC.region ?_
      refine TL.valE rfl (Val.move 1 rfl rfl) (by simp only [St.put, List.set_cons_succ, List.set_cons_zero]; rfl) ?_
      refine TL.valE rfl (Val.assign 1 rfl rfl) (by simp only [St.put, List.set_cons_succ, List.set_cons_zero]; rfl) ?_
      refine TL.nil ?_
      show TC _ _ _ _ _ _
      refine TC.ret ?_
      exact ⟨.inr rfl, [_], [_], _, [.sl 1 ((mkIntSS k xs).map dIntS)], rfl, by decide, rfl, by simp [refV, refC, valC], rfl, rfl, by simp, rfl, ⟨rfl, rfl⟩⟩

-- loop.example/g00975/laws.markInsS: params ['[]impl.Ins', 'int'] results ['int'] ('arr', [('app', 'Go.ResultVar.tmp', ['4'])])
theorem laws_markInsS_f (xs : List VIns) (k : Int) (h1 : 0 ≤ k) (h2 : k + cntInsS xs ≤ 1000000000000000) (hmx : SmInsS xs) : Fun2 Tryd.prog 104 (⟨false, [.sl 2 (xs.map dIns)]⟩) [.one (.c (.ref ⟨1000000, [], 0⟩)), I k] (RP2 [.sl 2 ((mkInsS k xs).map dIns)] (I (k + cntInsS xs))) := by
  refine Fun2.of Tryd.func104 rfl (by simp [Tryd.ntmps104]) fun w g0 => ?_
  simp only [Tryd.ntmps104, List.length_cons, List.length_nil, Nat.reduceAdd, Nat.reduceSub, List.replicate, List.cons_append, List.nil_append, Hand.k, pinK, pinB, if_true, if_false, Bool.false_eq_true, List.map_cons, List.map_nil]
  refine TC.seq ?_
  -- region 0
  refine TC.region ?_
  refine TL.valE rfl (Val.assign 1 rfl rfl) (by simp only [St.put, List.set_cons_succ, List.set_cons_zero]; rfl) ?_
  refine TL.nil ?_
  show TC _ _ _ _ _ _
  refine TC.seq ?_
  refine TC.seq ?_
  -- region 1
  refine TC.region ?_
  refine TL.valE rfl (Val.assign 1 rfl rfl) (by simp only [St.put, List.set_cons_succ, List.set_cons_zero]; rfl) ?_
  refine TL.nil ?_
  show TC _ _ _ _ _ _
  refine TC.block ?_
  refine TC.loop (fun μ st => ∃ i : Nat, (i ≤ xs.length) ∧ μ = xs.length - i ∧ Can st ⟨[.one (.c (.ref ⟨1000000, [], 0⟩)), I (k + cntFold cntEIns (xs.take i)), .one .dead, .one .dead, .one .dead, I i, .one .dead, .one .dead, .one .dead, .one .dead, .one .dead, .one .dead, .one .dead, .one .dead, .one .dead, .one .dead, .one .dead, .one .dead, .one .dead, .one .dead, .one .dead, .one .dead, .one .dead, .one .dead, .one .dead, .one .dead, .one .dead], [(1000000, ⟨false, [.own (.sl 2 ((mix (mkInsS k xs) xs i).map dIns))]⟩)]⟩) (xs.length) ?_ fun μ st hI => ?_
  · refine ⟨0, by simp, by simp, ?_⟩
    exact Can.to (by repeat first | exact LessT.nil | refine LessT.drop ?_ | refine LessT.keep ?_ | refine LessT.eq (by simp [cntFold]) ?_) (.cons rfl (by simp [mix_zero]) .nil)
  · obtain ⟨i, hyp, rfl, hcan⟩ := hI
    refine TC.can hcan ?_
    clear hcan
    refine TC.seq ?_
    refine TC.seq ?_
    -- region 2
    refine TC.region ?_
    refine TL.valE rfl (Val.move 1 rfl rfl) (by simp only [St.put, List.set_cons_succ, List.set_cons_zero]; rfl) ?_
    refine TL.valE rfl (Val.move 1 rfl rfl) (by simp only [St.put, List.set_cons_succ, List.set_cons_zero]; rfl) ?_
    refine TL.valE rfl (by first | exact Val.len rfl rfl rfl rfl | exact Val.lenS rfl rfl rfl) (by simp only [St.put, List.set_cons_succ, List.set_cons_zero]; rfl) ?_
    refine TL.valE rfl (Val.lss rfl rfl rfl) (by simp only [St.put, List.set_cons_succ, List.set_cons_zero]; rfl) ?_
    refine TL.nil ?_
    show TC _ _ _ _ _ _
    refine TC.cond rfl (fun hb => ?_) (fun hb => ?_)
    · refine TC.skip ?_
      show TC _ _ _ _ _ _
      refine TC.seq ?_
      refine TC.block ?_
      refine TC.seq ?_
      have hi : i < xs.length := by simpa [mix_len (mkInsS_len k xs)] using hb
      have hlen : xs.length ≤ 2097152 := Nat.le_trans (show xs.length ≤ 1048576 from hmx) (by decide)
      obtain ⟨x, hx⟩ := at_of (xs := xs) (k := i) hi
      have hcs := cntFold_step (c := cntEIns) hx
      have hc1 := cntFold_le cntEIns_nn xs (i + 1)
      have hc0 := cntFold_nn cntEIns_nn (xs.take i)
      have hcd : cntFold cntEIns xs = cntInsS xs := rfl
      have hg : ((mix (mkInsS k xs) xs i).map dIns)[i]? = some (dIns x) := by simp [List.getElem?_map, mix_get (mkInsS_len k xs), hx]
      have hs : ((mix (mkInsS k xs) xs i).map dIns).set i (dIns (mkEIns (k + cntFold cntEIns (xs.take i)) x)) = ((mix (mkInsS k xs) xs (i + 1)).map dIns) := by rw [← mix_set (mkInsS_len k xs) (mkFold_get mkEIns cntEIns k hx), List.map_set]
      have hLl : ((mix (mkInsS k xs) xs i).map dIns).length = xs.length := by simp [mix_len (mkInsS_len k xs)]
      generalize ((mix (mkInsS k xs) xs i).map dIns) = L at *
      simp only [dIns, rIns, mkEIns, cntEIns] at hg hs hcs
      generalize hKI : cntFold cntEIns (xs.take i) = m at *
      -- region 4
      refine TC.region ?_
      refine TL.valE rfl (Val.move 1 rfl rfl) (by simp only [St.put, List.set_cons_succ, List.set_cons_zero]; rfl) ?_
      refine TL.valE rfl (Val.move 1 rfl rfl) (by simp only [St.put, List.set_cons_succ, List.set_cons_zero]; rfl) ?_
      refine TL.valE rfl (Val.move 1 rfl rfl) (by simp only [St.put, List.set_cons_succ, List.set_cons_zero]; rfl) ?_
      refine TL.valE rfl (by exact Val.index rfl rfl rfl rfl rfl rfl (by omega) (by simp [hLl]; omega)) (by simp only [St.put, List.set_cons_succ, List.set_cons_zero]; rfl) ?_
      refine TL.valE rfl (by first | exact Val.field rfl rfl rfl | exact Val.fieldC rfl rfl rfl) (by simp only [St.put, List.set_cons_succ, List.set_cons_zero, List.getElem_toArray, List.getElem_cons_succ, List.getElem_cons_zero, Nat.zero_add, Nat.reduceAdd]; rfl) ?_
      refine TL.opK rfl fun K hK => ?_
      refine OpT.store (z := 1) rfl rfl rfl rfl (by simp [St.store1, St.storeAll, St.cellAt, St.isMem, St.root, St.wrote, St.kill, St.setRoot, TS.kill, TV.kill, C.kill, Rt.kill, hitR, hitP, shapeOf, setRow, setAt, rowAt, D.row, D.reRow, List.isPrefixOf, St.nest, St.kill, St.setRoot, St.root, List.getElem?_set_self', List.set_set, hg]; rfl) rfl (by simp [St.store1, St.storeAll, St.cellAt, St.isMem, St.root, St.wrote, St.kill, St.setRoot, TS.kill, TV.kill, C.kill, Rt.kill, hitR, hitP, shapeOf, setRow, setAt, rowAt, D.row, D.reRow, List.isPrefixOf, St.nest, St.kill, St.setRoot, St.root, List.getElem?_set_self', List.set_set, hg]; rfl) ?_
      simp only [St.fresh, St.kill, St.setRoot, St.put, St.renew, TS.kill, TV.kill, C.kill, Rt.kill, boxC, List.map_cons, List.map_nil, List.filter_cons, List.filter_nil, List.set_cons_succ, List.set_cons_zero, List.contains_cons, List.contains_nil, Nat.reduceBEq, Nat.reduceBNe, St.wrote, hitR, hitP, shapeOf, List.isPrefixOf, List.append_eq, Bool.and_true, Bool.true_and, Bool.and_false, Bool.false_and, List.nil_append, List.cons_append, beq_self_eq_true, bne_self_eq_false, Bool.or_false, Bool.or_true, Bool.not_true, Bool.not_false, Bool.false_eq_true, if_true, if_false, reduceIte, resT, valsD, refsD, refD, nextD, nextsD, cellsD, isSl, List.append_nil]
      refine hK _ ?_
      clear hK K
      refine TL.nil ?_
      show TC _ _ _ _ _ _
      refine TC.seq ?_
      -- region 5
      refine TC.region ?_
      refine TL.valE rfl (Val.move 1 rfl rfl) (by simp only [St.put, List.set_cons_succ, List.set_cons_zero]; rfl) ?_
      refine TL.valE rfl (Val.add rfl rfl rfl (by first | omega | (simp only [List.length_map]; omega)) (by first | omega | (simp only [List.length_map]; omega))) (by simp only [St.put, List.set_cons_succ, List.set_cons_zero]; rfl) ?_
      refine TL.valE rfl (Val.assign 1 rfl rfl) (by simp only [St.put, List.set_cons_succ, List.set_cons_zero]; rfl) ?_
      refine TL.nil ?_
      show TC _ _ _ _ _ _
      refine TC.seq ?_
      -- region 6
      refine TC.region ?_
      refine TL.valE rfl (Val.move 1 rfl rfl) (by simp only [St.put, List.set_cons_succ, List.set_cons_zero]; rfl) ?_
      refine TL.valE rfl (Val.move 1 rfl rfl) (by simp only [St.put, List.set_cons_succ, List.set_cons_zero]; rfl) ?_
      refine TL.valE rfl (Val.move 1 rfl rfl) (by simp only [St.put, List.set_cons_succ, List.set_cons_zero]; rfl) ?_
      refine TL.valE rfl (by exact Val.index rfl rfl rfl rfl rfl rfl (by omega) (by simp [hLl]; omega)) (by simp only [St.put, List.set_cons_succ, List.set_cons_zero]; rfl) ?_
      refine TL.valE rfl (by first | exact Val.field rfl rfl rfl | exact Val.fieldC rfl rfl rfl) (by simp only [St.put, List.set_cons_succ, List.set_cons_zero, List.getElem_toArray, List.getElem_cons_succ, List.getElem_cons_zero, Nat.zero_add, Nat.reduceAdd]; rfl) ?_
      refine TL.opK rfl fun K hK => ?_
      refine OpT.store (z := 1) rfl rfl rfl rfl (by simp [St.store1, St.storeAll, St.cellAt, St.isMem, St.root, St.wrote, St.kill, St.setRoot, TS.kill, TV.kill, C.kill, Rt.kill, hitR, hitP, shapeOf, setRow, setAt, rowAt, D.row, D.reRow, List.isPrefixOf, St.nest, St.kill, St.setRoot, St.root, List.getElem?_set_self', List.set_set, hg]; rfl) rfl (by simp [St.store1, St.storeAll, St.cellAt, St.isMem, St.root, St.wrote, St.kill, St.setRoot, TS.kill, TV.kill, C.kill, Rt.kill, hitR, hitP, shapeOf, setRow, setAt, rowAt, D.row, D.reRow, List.isPrefixOf, St.nest, St.kill, St.setRoot, St.root, List.getElem?_set_self', List.set_set, hg]; rfl) ?_
      simp only [St.fresh, St.kill, St.setRoot, St.put, St.renew, TS.kill, TV.kill, C.kill, Rt.kill, boxC, List.map_cons, List.map_nil, List.filter_cons, List.filter_nil, List.set_cons_succ, List.set_cons_zero, List.contains_cons, List.contains_nil, Nat.reduceBEq, Nat.reduceBNe, St.wrote, hitR, hitP, shapeOf, List.isPrefixOf, List.append_eq, Bool.and_true, Bool.true_and, Bool.and_false, Bool.false_and, List.nil_append, List.cons_append, beq_self_eq_true, bne_self_eq_false, Bool.or_false, Bool.or_true, Bool.not_true, Bool.not_false, Bool.false_eq_true, if_true, if_false, reduceIte, resT, valsD, refsD, refD, nextD, nextsD, cellsD, isSl, List.append_nil]
      refine hK _ ?_
      clear hK K
      refine TL.nil ?_
      show TC _ _ _ _ _ _
      -- region 7
      refine TC.region ?_
      refine TL.valE rfl (Val.move 1 rfl rfl) (by simp only [St.put, List.set_cons_succ, List.set_cons_zero]; rfl) ?_
      refine TL.valE rfl (Val.add rfl rfl rfl (by first | omega | (simp only [List.length_map]; omega)) (by first | omega | (simp only [List.length_map]; omega))) (by simp only [St.put, List.set_cons_succ, List.set_cons_zero]; rfl) ?_
      refine TL.valE rfl (Val.assign 1 rfl rfl) (by simp only [St.put, List.set_cons_succ, List.set_cons_zero]; rfl) ?_
      refine TL.nil ?_
      show TC _ _ _ _ _ _
      -- region 3
      refine TC.region ?_
      refine TL.valE rfl (Val.move 1 rfl rfl) (by simp only [St.put, List.set_cons_succ, List.set_cons_zero]; rfl) ?_
      refine TL.valE rfl (Val.add rfl rfl rfl (by first | omega | (simp only [List.length_map]; omega)) (by first | omega | (simp only [List.length_map]; omega))) (by simp only [St.put, List.set_cons_succ, List.set_cons_zero]; rfl) ?_
      refine TL.valE rfl (Val.assign 1 rfl rfl) (by simp only [St.put, List.set_cons_succ, List.set_cons_zero]; rfl) ?_
      refine TL.nil ?_
      first | refine Seq.normal ⟨_, ?_, i + 1, ?_, rfl, ?_⟩ | refine Seq.normal (Q := fun _ _ => True) ⟨_, ?_, i + 1, ?_, rfl, ?_⟩
      · omega
      · omega
      · exact Can.to (by repeat first | exact LessT.nil | refine LessT.drop ?_ | refine LessT.keep ?_ | refine LessT.eq (by first | rfl | (simp; done) | exact congrArg (fun z : Int => (I z : TS)) (by rw [hcs]; omega) | exact congrArg (fun z : Int => (I z : TS)) (by omega)) ?_) (.cons rfl (by simp [hs]) .nil)
    · refine TC.exit ?_
      -- exit 0
      show TC _ _ _ _ _ _
      refine TC.seq ?_
      have hn : i = xs.length := (by simp [mix_len (mkInsS_len k xs)] at hb; omega)
      subst hn
      rw [mix_all (mkInsS_len k xs) (Nat.le_refl _), List.take_length]
      -- region 8
      refine TC.region ?_
      refine TL.valE rfl (Val.move 1 rfl rfl) (by simp only [St.put, List.set_cons_succ, List.set_cons_zero]; rfl) ?_
      refine TL.valE rfl (Val.assign 1 rfl rfl) (by simp only [St.put, List.set_cons_succ, List.set_cons_zero]; rfl) ?_
      refine TL.nil ?_
      show TC _ _ _ _ _ _
      refine TC.ret ?_
      exact ⟨.inr rfl, [_], [_], _, [.sl 2 ((mkInsS k xs).map dIns)], rfl, by decide, rfl, by simp [refV, refC, valC], rfl, rfl, by simp, rfl, ⟨rfl, rfl⟩⟩

-- loop.example/g00975/laws.markSlotS: params ['[]impl.Slot', 'int'] results ['int'] ('arr', [('app', 'Go.ResultVar.tmp', ['4'])])
theorem laws_markSlotS_f (xs : List VSlot) (k : Int) (h1 : 0 ≤ k) (h2 : k + cntSlotS xs ≤ 1000000000000000) (hmx : SmSlotS xs) : Fun2 Tryd.prog 105 (⟨false, [.sl 2 (xs.map dSlot)]⟩) [.one (.c (.ref ⟨1000000, [], 0⟩)), I k] (RP2 [.sl 2 ((mkSlotS k xs).map dSlot)] (I (k + cntSlotS xs))) := by
  refine Fun2.of Tryd.func105 rfl (by simp [Tryd.ntmps105]) fun w g0 => ?_
  simp only [Tryd.ntmps105, List.length_cons, List.length_nil, Nat.reduceAdd, Nat.reduceSub, List.replicate, List.cons_append, List.nil_append, Hand.k, pinK, pinB, if_true, if_false, Bool.false_eq_true, List.map_cons, List.map_nil]
  refine TC.seq ?_
  -- region 0
  refine TC.region ?_
  refine TL.valE rfl (Val.assign 1 rfl rfl) (by simp only [St.put, List.set_cons_succ, List.set_cons_zero]; rfl) ?_
  refine TL.nil ?_
  show TC _ _ _ _ _ _
  refine TC.seq ?_
  refine TC.seq ?_
  -- region 1
  refine TC.region ?_
  refine TL.valE rfl (Val.assign 1 rfl rfl) (by simp only [St.put, List.set_cons_succ, List.set_cons_zero]; rfl) ?_
  refine TL.nil ?_
  show TC _ _ _ _ _ _
  refine TC.block ?_
  refine TC.loop (fun μ st => ∃ i : Nat, (i ≤ xs.length) ∧ μ = xs.length - i ∧ Can st ⟨[.one (.c (.ref ⟨1000000, [], 0⟩)), I (k + cntFold cntESlot (xs.take i)), .one .dead, .one .dead, .one .dead, I i, .one .dead, .one .dead, .one .dead, .one .dead, .one .dead, .one .dead, .one .dead, .one .dead, .one .dead, .one .dead, .one .dead, .one .dead, .one .dead, .one .dead, .one .dead, .one .dead, .one .dead, .one .dead, .one .dead, .one .dead, .one .dead], [(1000000, ⟨false, [.own (.sl 2 ((mix (mkSlotS k xs) xs i).map dSlot))]⟩)]⟩) (xs.length) ?_ fun μ st hI => ?_
  · refine ⟨0, by simp, by simp, ?_⟩
    exact Can.to (by repeat first | exact LessT.nil | refine LessT.drop ?_ | refine LessT.keep ?_ | refine LessT.eq (by simp [cntFold]) ?_) (.cons rfl (by simp [mix_zero]) .nil)
  · obtain ⟨i, hyp, rfl, hcan⟩ := hI
    refine TC.can hcan ?_
    clear hcan
    refine TC.seq ?_
    refine TC.seq ?_
    -- region 2
    refine TC.region ?_
    refine TL.valE rfl (Val.move 1 rfl rfl) (by simp only [St.put, List.set_cons_succ, List.set_cons_zero]; rfl) ?_
    refine TL.valE rfl (Val.move 1 rfl rfl) (by simp only [St.put, List.set_cons_succ, List.set_cons_zero]; rfl) ?_
    refine TL.valE rfl (by first | exact Val.len rfl rfl rfl rfl | exact Val.lenS rfl rfl rfl) (by simp only [St.put, List.set_cons_succ, List.set_cons_zero]; rfl) ?_
    refine TL.valE rfl (Val.lss rfl rfl rfl) (by simp only [St.put, List.set_cons_succ, List.set_cons_zero]; rfl) ?_
    refine TL.nil ?_
    show TC _ _ _ _ _ _
    refine TC.cond rfl (fun hb => ?_) (fun hb => ?_)
    · refine TC.skip ?_
      show TC _ _ _ _ _ _
      refine TC.seq ?_
      refine TC.block ?_
      refine TC.seq ?_
      have hi : i < xs.length := by simpa [mix_len (mkSlotS_len k xs)] using hb
      have hlen : xs.length ≤ 2097152 := Nat.le_trans (show xs.length ≤ 1048576 from hmx) (by decide)
      obtain ⟨x, hx⟩ := at_of (xs := xs) (k := i) hi
      have hcs := cntFold_step (c := cntESlot) hx
      have hc1 := cntFold_le cntESlot_nn xs (i + 1)
      have hc0 := cntFold_nn cntESlot_nn (xs.take i)
      have hcd : cntFold cntESlot xs = cntSlotS xs := rfl
      have hg : ((mix (mkSlotS k xs) xs i).map dSlot)[i]? = some (dSlot x) := by simp [List.getElem?_map, mix_get (mkSlotS_len k xs), hx]
      have hs : ((mix (mkSlotS k xs) xs i).map dSlot).set i (dSlot (mkESlot (k + cntFold cntESlot (xs.take i)) x)) = ((mix (mkSlotS k xs) xs (i + 1)).map dSlot) := by rw [← mix_set (mkSlotS_len k xs) (mkFold_get mkESlot cntESlot k hx), List.map_set]
      have hLl : ((mix (mkSlotS k xs) xs i).map dSlot).length = xs.length := by simp [mix_len (mkSlotS_len k xs)]
      generalize ((mix (mkSlotS k xs) xs i).map dSlot) = L at *
      simp only [dSlot, rSlot, mkESlot, cntESlot] at hg hs hcs
      generalize hKI : cntFold cntESlot (xs.take i) = m at *
      -- region 4
      refine TC.region ?_
      refine TL.valE rfl (Val.move 1 rfl rfl) (by simp only [St.put, List.set_cons_succ, List.set_cons_zero]; rfl) ?_
      refine TL.valE rfl (Val.move 1 rfl rfl) (by simp only [St.put, List.set_cons_succ, List.set_cons_zero]; rfl) ?_
      refine TL.valE rfl (Val.move 1 rfl rfl) (by simp only [St.put, List.set_cons_succ, List.set_cons_zero]; rfl) ?_
      refine TL.valE rfl (by exact Val.index rfl rfl rfl rfl rfl rfl (by omega) (by simp [hLl]; omega)) (by simp only [St.put, List.set_cons_succ, List.set_cons_zero]; rfl) ?_
      refine TL.valE rfl (by first | exact Val.field rfl rfl rfl | exact Val.fieldC rfl rfl rfl) (by simp only [St.put, List.set_cons_succ, List.set_cons_zero, List.getElem_toArray, List.getElem_cons_succ, List.getElem_cons_zero, Nat.zero_add, Nat.reduceAdd]; rfl) ?_
      refine TL.opK rfl fun K hK => ?_
      refine OpT.store (z := 1) rfl rfl rfl rfl (by simp [St.store1, St.storeAll, St.cellAt, St.isMem, St.root, St.wrote, St.kill, St.setRoot, TS.kill, TV.kill, C.kill, Rt.kill, hitR, hitP, shapeOf, setRow, setAt, rowAt, D.row, D.reRow, List.isPrefixOf, St.nest, St.kill, St.setRoot, St.root, List.getElem?_set_self', List.set_set, hg]; rfl) rfl (by simp [St.store1, St.storeAll, St.cellAt, St.isMem, St.root, St.wrote, St.kill, St.setRoot, TS.kill, TV.kill, C.kill, Rt.kill, hitR, hitP, shapeOf, setRow, setAt, rowAt, D.row, D.reRow, List.isPrefixOf, St.nest, St.kill, St.setRoot, St.root, List.getElem?_set_self', List.set_set, hg]; rfl) ?_
      simp only [St.fresh, St.kill, St.setRoot, St.put, St.renew, TS.kill, TV.kill, C.kill, Rt.kill, boxC, List.map_cons, List.map_nil, List.filter_cons, List.filter_nil, List.set_cons_succ, List.set_cons_zero, List.contains_cons, List.contains_nil, Nat.reduceBEq, Nat.reduceBNe, St.wrote, hitR, hitP, shapeOf, List.isPrefixOf, List.append_eq, Bool.and_true, Bool.true_and, Bool.and_false, Bool.false_and, List.nil_append, List.cons_append, beq_self_eq_true, bne_self_eq_false, Bool.or_false, Bool.or_true, Bool.not_true, Bool.not_false, Bool.false_eq_true, if_true, if_false, reduceIte, resT, valsD, refsD, refD, nextD, nextsD, cellsD, isSl, List.append_nil]
      refine hK _ ?_
      clear hK K
      refine TL.nil ?_
      show TC _ _ _ _ _ _
      refine TC.seq ?_
      -- region 5
      refine TC.region ?_
      refine TL.valE rfl (Val.move 1 rfl rfl) (by simp only [St.put, List.set_cons_succ, List.set_cons_zero]; rfl) ?_
      refine TL.valE rfl (Val.add rfl rfl rfl (by first | omega | (simp only [List.length_map]; omega)) (by first | omega | (simp only [List.length_map]; omega))) (by simp only [St.put, List.set_cons_succ, List.set_cons_zero]; rfl) ?_
      refine TL.valE rfl (Val.assign 1 rfl rfl) (by simp only [St.put, List.set_cons_succ, List.set_cons_zero]; rfl) ?_
      refine TL.nil ?_
      show TC _ _ _ _ _ _
      refine TC.seq ?_
      -- region 6
      refine TC.region ?_
      refine TL.valE rfl (Val.move 1 rfl rfl) (by simp only [St.put, List.set_cons_succ, List.set_cons_zero]; rfl) ?_
      refine TL.valE rfl (Val.move 1 rfl rfl) (by simp only [St.put, List.set_cons_succ, List.set_cons_zero]; rfl) ?_
      refine TL.valE rfl (Val.move 1 rfl rfl) (by simp only [St.put, List.set_cons_succ, List.set_cons_zero]; rfl) ?_
      refine TL.valE rfl (by exact Val.index rfl rfl rfl rfl rfl rfl (by omega) (by simp [hLl]; omega)) (by simp only [St.put, List.set_cons_succ, List.set_cons_zero]; rfl) ?_
      refine TL.valE rfl (by first | exact Val.field rfl rfl rfl | exact Val.fieldC rfl rfl rfl) (by simp only [St.put, List.set_cons_succ, List.set_cons_zero, List.getElem_toArray, List.getElem_cons_succ, List.getElem_cons_zero, Nat.zero_add, Nat.reduceAdd]; rfl) ?_
      refine TL.opK rfl fun K hK => ?_
      refine OpT.store (z := 1) rfl rfl rfl rfl (by simp [St.store1, St.storeAll, St.cellAt, St.isMem, St.root, St.wrote, St.kill, St.setRoot, TS.kill, TV.kill, C.kill, Rt.kill, hitR, hitP, shapeOf, setRow, setAt, rowAt, D.row, D.reRow, List.isPrefixOf, St.nest, St.kill, St.setRoot, St.root, List.getElem?_set_self', List.set_set, hg]; rfl) rfl (by simp [St.store1, St.storeAll, St.cellAt, St.isMem, St.root, St.wrote, St.kill, St.setRoot, TS.kill, TV.kill, C.kill, Rt.kill, hitR, hitP, shapeOf, setRow, setAt, rowAt, D.row, D.reRow, List.isPrefixOf, St.nest, St.kill, St.setRoot, St.root, List.getElem?_set_self', List.set_set, hg]; rfl) ?_
      simp only [St.fresh, St.kill, St.setRoot, St.put, St.renew, TS.kill, TV.kill, C.kill, Rt.kill, boxC, List.map_cons, List.map_nil, List.filter_cons, List.filter_nil, List.set_cons_succ, List.set_cons_zero, List.contains_cons, List.contains_nil, Nat.reduceBEq, Nat.reduceBNe, St.wrote, hitR, hitP, shapeOf, List.isPrefixOf, List.append_eq, Bool.and_true, Bool.true_and, Bool.and_false, Bool.false_and, List.nil_append, List.cons_append, beq_self_eq_true, bne_self_eq_false, Bool.or_false, Bool.or_true, Bool.not_true, Bool.not_false, Bool.false_eq_true, if_true, if_false, reduceIte, resT, valsD, refsD, refD, nextD, nextsD, cellsD, isSl, List.append_nil]
      refine hK _ ?_
      clear hK K
      refine TL.nil ?_
      show TC _ _ _ _ _ _
      -- region 7
      refine TC.region ?_
      refine TL.valE rfl (Val.move 1 rfl rfl) (by simp only [St.put, List.set_cons_succ, List.set_cons_zero]; rfl) ?_
      refine TL.valE rfl (Val.add rfl rfl rfl (by first | omega | (simp only [List.length_map]; omega)) (by first | omega | (simp only [List.length_map]; omega))) (by simp only [St.put, List.set_cons_succ, List.set_cons_zero]; rfl) ?_
      refine TL.valE rfl (Val.assign 1 rfl rfl) (by simp only [St.put, List.set_cons_succ, List.set_cons_zero]; rfl) ?_
      refine TL.nil ?_
      show TC _ _ _ _ _ _
      -- region 3
      refine TC.region ?_
      refine TL.valE rfl (Val.move 1 rfl rfl) (by simp only [St.put, List.set_cons_succ, List.set_cons_zero]; rfl) ?_
      refine TL.valE rfl (Val.add rfl rfl rfl (by first | omega | (simp only [List.length_map]; omega)) (by first | omega | (simp only [List.length_map]; omega))) (by simp only [St.put, List.set_cons_succ, List.set_cons_zero]; rfl) ?_
      refine TL.valE rfl (Val.assign 1 rfl rfl) (by simp only [St.put, List.set_cons_succ, List.set_cons_zero]; rfl) ?_
      refine TL.nil ?_
      first | refine Seq.normal ⟨_, ?_, i + 1, ?_, rfl, ?_⟩ | refine Seq.normal (Q := fun _ _ => True) ⟨_, ?_, i + 1, ?_, rfl, ?_⟩
      · omega
      · omega
      · exact Can.to (by repeat first | exact LessT.nil | refine LessT.drop ?_ | refine LessT.keep ?_ | refine LessT.eq (by first | rfl | (simp; done) | exact congrArg (fun z : Int => (I z : TS)) (by rw [hcs]; omega) | exact congrArg (fun z : Int => (I z : TS)) (by omega)) ?_) (.cons rfl (by simp [hs]) .nil)
    · refine TC.exit ?_
      -- exit 0
      show TC _ _ _ _ _ _
      refine TC.seq ?_
      have hn : i = xs.length := (by simp [mix_len (mkSlotS_len k xs)] at hb; omega)
      subst hn
      rw [mix_all (mkSlotS_len k xs) (Nat.le_refl _), List.take_length]
      -- region 8
      refine TC.region ?_
      refine TL.valE rfl (Val.move 1 rfl rfl) (by simp only [St.put, List.set_cons_succ, List.set_cons_zero]; rfl) ?_
      refine TL.valE rfl (Val.assign 1 rfl rfl) (by simp only [St.put, List.set_cons_succ, List.set_cons_zero]; rfl) ?_
      refine TL.nil ?_
      show TC _ _ _ _ _ _
      refine TC.ret ?_
      exact ⟨.inr rfl, [_], [_], _, [.sl 2 ((mkSlotS k xs).map dSlot)], rfl, by decide, rfl, by simp [refV, refC, valC], rfl, rfl, by simp, rfl, ⟨rfl, rfl⟩⟩

-- loop.example/g00975/laws.markGuestS: params ['[]impl.Guest', 'int'] results ['int'] ('arr', [('app', 'Go.ResultVar.tmp', ['4'])])
theorem laws_markGuestS_f (xs : List VGuest) (k : Int) (h1 : 0 ≤ k) (h2 : k + cntGuestS xs ≤ 1000000000000000) (hmx : SmGuestS xs) : Fun2 Tryd.prog 65 (⟨false, [.sl 15 (xs.map dGuest)]⟩) [.one (.c (.ref ⟨1000000, [], 0⟩)), I k] (RP2 [.sl 15 ((mkGuestS k xs).map dGuest)] (I (k + cntGuestS xs))) := by
  refine Fun2.of Tryd.func65 rfl (by simp [Tryd.ntmps65]) fun w g0 => ?_
  simp only [Tryd.ntmps65, List.length_cons, List.length_nil, Nat.reduceAdd, Nat.reduceSub, List.replicate, List.cons_append, List.nil_append, Hand.k, pinK, pinB, if_true, if_false, Bool.false_eq_true, List.map_cons, List.map_nil]
  refine TC.seq ?_
  -- region 0
  refine TC.region ?_
  refine TL.valE rfl (Val.assign 1 rfl rfl) (by simp only [St.put, List.set_cons_succ, List.set_cons_zero]; rfl) ?_
  refine TL.nil ?_
  show TC _ _ _ _ _ _
  refine TC.seq ?_
  refine TC.seq ?_
  -- region 1
  refine TC.region ?_
  refine TL.valE rfl (Val.assign 1 rfl rfl) (by simp only [St.put, List.set_cons_succ, List.set_cons_zero]; rfl) ?_
  refine TL.nil ?_
  show TC _ _ _ _ _ _
  refine TC.block ?_
  refine TC.loop (fun μ st => ∃ i : Nat, (i ≤ xs.length) ∧ μ = xs.length - i ∧ Can st ⟨[.one (.c (.ref ⟨1000000, [], 0⟩)), I (k + cntFold cntEGuest (xs.take i)), .one .dead, .one .dead, .one .dead, I i, .one .dead, .one .dead, .one .dead, .one .dead, .one .dead, .one .dead, .one .dead, .one .dead, .one .dead, .one .dead, .one .dead, .one .dead, .one .dead, .one .dead, .one .dead, .one .dead, .one .dead, .one .dead, .one .dead, .one .dead, .one .dead, .one .dead, .one .dead, .one .dead, .one .dead, .one .dead, .one .dead, .one .dead, .one .dead, .one .dead, .one .dead, .one .dead, .one .dead, .one .dead, .one .dead, .one .dead, .one .dead, .one .dead, .one .dead, .one .dead, .one .dead, .one .dead, .one .dead, .one .dead, .one .dead, .one .dead, .one .dead, .one .dead, .one .dead, .one .dead, .one .dead, .one .dead, .one .dead, .one .dead, .one .dead, .one .dead, .one .dead, .one .dead, .one .dead, .one .dead, .one .dead, .one .dead, .one .dead, .one .dead, .one .dead, .one .dead, .one .dead, .one .dead, .one .dead, .one .dead, .one .dead, .one .dead, .one .dead, .one .dead, .one .dead, .one .dead, .one .dead, .one .dead, .one .dead, .one .dead, .one .dead, .one .dead, .one .dead, .one .dead, .one .dead, .one .dead, .one .dead, .one .dead, .one .dead, .one .dead, .one .dead, .one .dead, .one .dead, .one .dead, .one .dead, .one .dead, .one .dead, .one .dead, .one .dead, .one .dead, .one .dead, .one .dead, .one .dead, .one .dead, .one .dead, .one .dead, .one .dead, .one .dead, .one .dead, .one .dead, .one .dead, .one .dead, .one .dead, .one .dead, .one .dead, .one .dead, .one .dead, .one .dead, .one .dead, .one .dead, .one .dead, .one .dead, .one .dead, .one .dead, .one .dead], [(1000000, ⟨false, [.own (.sl 15 ((mix (mkGuestS k xs) xs i).map dGuest))]⟩)]⟩) (xs.length) ?_ fun μ st hI => ?_
  · refine ⟨0, by simp, by simp, ?_⟩
    exact Can.to (by repeat first | exact LessT.nil | refine LessT.drop ?_ | refine LessT.keep ?_ | refine LessT.eq (by simp [cntFold]) ?_) (.cons rfl (by simp [mix_zero]) .nil)
  · obtain ⟨i, hyp, rfl, hcan⟩ := hI
    refine TC.can hcan ?_
    clear hcan
    refine TC.seq ?_
    refine TC.seq ?_
    -- region 2
    refine TC.region ?_
    refine TL.valE rfl (Val.move 1 rfl rfl) (by simp only [St.put, List.set_cons_succ, List.set_cons_zero]; rfl) ?_
    refine TL.valE rfl (Val.move 1 rfl rfl) (by simp only [St.put, List.set_cons_succ, List.set_cons_zero]; rfl) ?_
    refine TL.valE rfl (by first | exact Val.len rfl rfl rfl rfl | exact Val.lenS rfl rfl rfl) (by simp only [St.put, List.set_cons_succ, List.set_cons_zero]; rfl) ?_
    refine TL.valE rfl (Val.lss rfl rfl rfl) (by simp only [St.put, List.set_cons_succ, List.set_cons_zero]; rfl) ?_
    refine TL.nil ?_
    show TC _ _ _ _ _ _
    refine TC.cond rfl (fun hb => ?_) (fun hb => ?_)
    · refine TC.skip ?_
      show TC _ _ _ _ _ _
      refine TC.seq ?_
      refine TC.block ?_
      refine TC.seq ?_
      have hi : i < xs.length := by simpa [mix_len (mkGuestS_len k xs)] using hb
      have hlen : xs.length ≤ 2097152 := Nat.le_trans (show xs.length ≤ 1048576 from hmx.1) (by decide)
      obtain ⟨x, hx⟩ := at_of (xs := xs) (k := i) hi
      have hcs := cntFold_step (c := cntEGuest) hx
      have hc1 := cntFold_le cntEGuest_nn xs (i + 1)
      have hc0 := cntFold_nn cntEGuest_nn (xs.take i)
      have hcd : cntFold cntEGuest xs = cntGuestS xs := rfl
      have hsx : SmGuest x := hmx.2 x (List.mem_of_getElem? hx)
      have hn0 := cntInsS_nn x.Prog
      have hn1 := cntSlotS_nn x.Written
      have hn2 := cntSlotS_nn x.Live
      have hn3 := cntIntS_nn x.Seen
      have hg : ((mix (mkGuestS k xs) xs i).map dGuest)[i]? = some (dGuest x) := by simp [List.getElem?_map, mix_get (mkGuestS_len k xs), hx]
      have hs : ((mix (mkGuestS k xs) xs i).map dGuest).set i (dGuest (mkEGuest (k + cntFold cntEGuest (xs.take i)) x)) = ((mix (mkGuestS k xs) xs (i + 1)).map dGuest) := by rw [← mix_set (mkGuestS_len k xs) (mkFold_get mkEGuest cntEGuest k hx), List.map_set]
      have hLl : ((mix (mkGuestS k xs) xs i).map dGuest).length = xs.length := by simp [mix_len (mkGuestS_len k xs)]
      generalize ((mix (mkGuestS k xs) xs i).map dGuest) = L at *
      simp only [dGuest, rGuest, mkEGuest, cntEGuest] at hg hs hcs
      generalize hKI : cntFold cntEGuest (xs.take i) = m at *
      -- region 4
      refine TC.region ?_
      refine TL.valE rfl (Val.move 1 rfl rfl) (by simp only [St.put, List.set_cons_succ, List.set_cons_zero]; rfl) ?_
      refine TL.valE rfl (Val.move 1 rfl rfl) (by simp only [St.put, List.set_cons_succ, List.set_cons_zero]; rfl) ?_
      refine TL.valE rfl (by exact Val.index rfl rfl rfl rfl rfl rfl (by omega) (by simp [hLl]; omega)) (by simp only [St.put, List.set_cons_succ, List.set_cons_zero]; rfl) ?_
      refine TL.valE rfl (by first | exact Val.field rfl rfl rfl | exact Val.fieldC rfl rfl rfl) (by simp only [St.put, List.set_cons_succ, List.set_cons_zero, List.getElem_toArray, List.getElem_cons_succ, List.getElem_cons_zero, Nat.zero_add, Nat.reduceAdd]; rfl) ?_
      refine TL.valE rfl (by exact Val.load rfl rfl rfl (c := .own (.sl 2 (x.Prog.map dIns))) (by simp [St.store1, St.storeAll, St.cellAt, St.isMem, St.root, St.wrote, St.kill, St.setRoot, TS.kill, TV.kill, C.kill, Rt.kill, hitR, hitP, shapeOf, setRow, setAt, rowAt, D.row, D.reRow, List.isPrefixOf, St.nest, St.kill, St.setRoot, St.root, List.getElem?_set_self', List.set_set, hg]; done) rfl) (by simp only [St.put, List.set_cons_succ, List.set_cons_zero, valC]; rfl) ?_
      refine TL.valE rfl (Val.move 1 rfl rfl) (by simp only [St.put, List.set_cons_succ, List.set_cons_zero]; rfl) ?_
      refine TL.callN (k1 := 1000000) (q0 := 0) (i0 := i) (j := 0) (yes_none rfl) rfl rfl rfl rfl rfl rfl (laws_markInsS_f x.Prog ((k + m)) (by omega) (by omega) (hsx.1)) rfl rfl (by simp [St.store1, St.storeAll, St.cellAt, St.isMem, St.root, St.wrote, St.kill, St.setRoot, TS.kill, TV.kill, C.kill, Rt.kill, hitR, hitP, shapeOf, setRow, setAt, rowAt, D.row, D.reRow, List.isPrefixOf, St.nest, St.kill, St.setRoot, St.root, List.getElem?_set_self', List.set_set, hg]; rfl) (by rfl) (by repeat first | exact .nil | refine GiveNs.cons (.ro _) ?_ | refine GiveNs.cons .it ?_) rfl (by simp [St.store1, St.storeAll, St.cellAt, St.isMem, St.root, St.wrote, St.kill, St.setRoot, TS.kill, TV.kill, C.kill, Rt.kill, hitR, hitP, shapeOf, setRow, setAt, rowAt, D.row, D.reRow, List.isPrefixOf, St.nest, St.kill, St.setRoot, St.root, List.getElem?_set_self', List.set_set, hg]; rfl) (by simp only [St.put, List.set_cons_succ, List.set_cons_zero]; rfl) ?_
      refine TL.valE rfl (Val.assign 1 rfl rfl) (by simp only [St.put, List.set_cons_succ, List.set_cons_zero]; rfl) ?_
      refine TL.nil ?_
      show TC _ _ _ _ _ _
      refine TC.seq ?_
      -- region 5
      refine TC.region ?_
      refine TL.valE rfl (Val.move 1 rfl rfl) (by simp only [St.put, List.set_cons_succ, List.set_cons_zero]; rfl) ?_
      refine TL.valE rfl (Val.move 1 rfl rfl) (by simp only [St.put, List.set_cons_succ, List.set_cons_zero]; rfl) ?_
      refine TL.valE rfl (Val.move 1 rfl rfl) (by simp only [St.put, List.set_cons_succ, List.set_cons_zero]; rfl) ?_
      refine TL.valE rfl (by exact Val.index rfl rfl rfl rfl rfl rfl (by omega) (by simp [hLl]; omega)) (by simp only [St.put, List.set_cons_succ, List.set_cons_zero]; rfl) ?_
      refine TL.valE rfl (by first | exact Val.field rfl rfl rfl | exact Val.fieldC rfl rfl rfl) (by simp only [St.put, List.set_cons_succ, List.set_cons_zero, List.getElem_toArray, List.getElem_cons_succ, List.getElem_cons_zero, Nat.zero_add, Nat.reduceAdd]; rfl) ?_
      refine TL.opK rfl fun K hK => ?_
      refine OpT.store (z := 1) rfl rfl rfl rfl (by simp [St.store1, St.storeAll, St.cellAt, St.isMem, St.root, St.wrote, St.kill, St.setRoot, TS.kill, TV.kill, C.kill, Rt.kill, hitR, hitP, shapeOf, setRow, setAt, rowAt, D.row, D.reRow, List.isPrefixOf, St.nest, St.kill, St.setRoot, St.root, List.getElem?_set_self', List.set_set, hg]; rfl) rfl (by simp [St.store1, St.storeAll, St.cellAt, St.isMem, St.root, St.wrote, St.kill, St.setRoot, TS.kill, TV.kill, C.kill, Rt.kill, hitR, hitP, shapeOf, setRow, setAt, rowAt, D.row, D.reRow, List.isPrefixOf, St.nest, St.kill, St.setRoot, St.root, List.getElem?_set_self', List.set_set, hg]; rfl) ?_
      simp only [St.fresh, St.kill, St.setRoot, St.put, St.renew, TS.kill, TV.kill, C.kill, Rt.kill, boxC, List.map_cons, List.map_nil, List.filter_cons, List.filter_nil, List.set_cons_succ, List.set_cons_zero, List.contains_cons, List.contains_nil, Nat.reduceBEq, Nat.reduceBNe, St.wrote, hitR, hitP, shapeOf, List.isPrefixOf, List.append_eq, Bool.and_true, Bool.true_and, Bool.and_false, Bool.false_and, List.nil_append, List.cons_append, beq_self_eq_true, bne_self_eq_false, Bool.or_false, Bool.or_true, Bool.not_true, Bool.not_false, Bool.false_eq_true, if_true, if_false, reduceIte, resT, valsD, refsD, refD, nextD, nextsD, cellsD, isSl, List.append_nil]
      refine hK _ ?_
      clear hK K
      refine TL.nil ?_
      show TC _ _ _ _ _ _
      refine TC.seq ?_
      -- region 6
      refine TC.region ?_
      refine TL.valE rfl (Val.move 1 rfl rfl) (by simp only [St.put, List.set_cons_succ, List.set_cons_zero]; rfl) ?_
      refine TL.valE rfl (Val.add rfl rfl rfl (by first | omega | (simp only [List.length_map]; omega)) (by first | omega | (simp only [List.length_map]; omega))) (by simp only [St.put, List.set_cons_succ, List.set_cons_zero]; rfl) ?_
      refine TL.valE rfl (Val.assign 1 rfl rfl) (by simp only [St.put, List.set_cons_succ, List.set_cons_zero]; rfl) ?_
      refine TL.nil ?_
      show TC _ _ _ _ _ _
      refine TC.seq ?_
      -- region 7
      refine TC.region ?_
      refine TL.valE rfl (Val.move 1 rfl rfl) (by simp only [St.put, List.set_cons_succ, List.set_cons_zero]; rfl) ?_
      refine TL.valE rfl (Val.move 1 rfl rfl) (by simp only [St.put, List.set_cons_succ, List.set_cons_zero]; rfl) ?_
      refine TL.valE rfl (Val.move 1 rfl rfl) (by simp only [St.put, List.set_cons_succ, List.set_cons_zero]; rfl) ?_
      refine TL.valE rfl (by exact Val.index rfl rfl rfl rfl rfl rfl (by omega) (by simp [hLl]; omega)) (by simp only [St.put, List.set_cons_succ, List.set_cons_zero]; rfl) ?_
      refine TL.valE rfl (by first | exact Val.field rfl rfl rfl | exact Val.fieldC rfl rfl rfl) (by simp only [St.put, List.set_cons_succ, List.set_cons_zero, List.getElem_toArray, List.getElem_cons_succ, List.getElem_cons_zero, Nat.zero_add, Nat.reduceAdd]; rfl) ?_
      refine TL.opK rfl fun K hK => ?_
      refine OpT.store (z := 1) rfl rfl rfl rfl (by simp [St.store1, St.storeAll, St.cellAt, St.isMem, St.root, St.wrote, St.kill, St.setRoot, TS.kill, TV.kill, C.kill, Rt.kill, hitR, hitP, shapeOf, setRow, setAt, rowAt, D.row, D.reRow, List.isPrefixOf, St.nest, St.kill, St.setRoot, St.root, List.getElem?_set_self', List.set_set, hg]; rfl) rfl (by simp [St.store1, St.storeAll, St.cellAt, St.isMem, St.root, St.wrote, St.kill, St.setRoot, TS.kill, TV.kill, C.kill, Rt.kill, hitR, hitP, shapeOf, setRow, setAt, rowAt, D.row, D.reRow, List.isPrefixOf, St.nest, St.kill, St.setRoot, St.root, List.getElem?_set_self', List.set_set, hg]; rfl) ?_
      simp only [St.fresh, St.kill, St.setRoot, St.put, St.renew, TS.kill, TV.kill, C.kill, Rt.kill, boxC, List.map_cons, List.map_nil, List.filter_cons, List.filter_nil, List.set_cons_succ, List.set_cons_zero, List.contains_cons, List.contains_nil, Nat.reduceBEq, Nat.reduceBNe, St.wrote, hitR, hitP, shapeOf, List.isPrefixOf, List.append_eq, Bool.and_true, Bool.true_and, Bool.and_false, Bool.false_and, List.nil_append, List.cons_append, beq_self_eq_true, bne_self_eq_false, Bool.or_false, Bool.or_true, Bool.not_true, Bool.not_false, Bool.false_eq_true, if_true, if_false, reduceIte, resT, valsD, refsD, refD, nextD, nextsD, cellsD, isSl, List.append_nil]
      refine hK _ ?_
      clear hK K
      refine TL.nil ?_
      show TC _ _ _ _ _ _
      refine TC.seq ?_
      -- region 8
      refine TC.region ?_
      refine TL.valE rfl (Val.move 1 rfl rfl) (by simp only [St.put, List.set_cons_succ, List.set_cons_zero]; rfl) ?_
      refine TL.valE rfl (Val.add rfl rfl rfl (by first | omega | (simp only [List.length_map]; omega)) (by first | omega | (simp only [List.length_map]; omega))) (by simp only [St.put, List.set_cons_succ, List.set_cons_zero]; rfl) ?_
      refine TL.valE rfl (Val.assign 1 rfl rfl) (by simp only [St.put, List.set_cons_succ, List.set_cons_zero]; rfl) ?_
      refine TL.nil ?_
      show TC _ _ _ _ _ _
      refine TC.seq ?_
      -- region 9
      refine TC.region ?_
      refine TL.valE rfl (Val.move 1 rfl rfl) (by simp only [St.put, List.set_cons_succ, List.set_cons_zero]; rfl) ?_
      refine TL.valE rfl (Val.move 1 rfl rfl) (by simp only [St.put, List.set_cons_succ, List.set_cons_zero]; rfl) ?_
      refine TL.valE rfl (by exact Val.index rfl rfl rfl rfl rfl rfl (by omega) (by simp [hLl]; omega)) (by simp only [St.put, List.set_cons_succ, List.set_cons_zero]; rfl) ?_
      refine TL.valE rfl (by first | exact Val.field rfl rfl rfl | exact Val.fieldC rfl rfl rfl) (by simp only [St.put, List.set_cons_succ, List.set_cons_zero, List.getElem_toArray, List.getElem_cons_succ, List.getElem_cons_zero, Nat.zero_add, Nat.reduceAdd]; rfl) ?_
      refine TL.valE rfl (by exact Val.load rfl rfl rfl (c := .own (.sl 2 (x.Written.map dSlot))) (by simp [St.store1, St.storeAll, St.cellAt, St.isMem, St.root, St.wrote, St.kill, St.setRoot, TS.kill, TV.kill, C.kill, Rt.kill, hitR, hitP, shapeOf, setRow, setAt, rowAt, D.row, D.reRow, List.isPrefixOf, St.nest, St.kill, St.setRoot, St.root, List.getElem?_set_self', List.set_set, hg]; done) rfl) (by simp only [St.put, List.set_cons_succ, List.set_cons_zero, valC]; rfl) ?_
      refine TL.valE rfl (Val.move 1 rfl rfl) (by simp only [St.put, List.set_cons_succ, List.set_cons_zero]; rfl) ?_
      refine TL.callN (k1 := 1000000) (q0 := 0) (i0 := i) (j := 3) (yes_none rfl) rfl rfl rfl rfl rfl rfl (laws_markSlotS_f x.Written ((k + m) + cntInsS x.Prog + 1 + 1) (by omega) (by omega) (hsx.2.1)) rfl rfl (by simp [St.store1, St.storeAll, St.cellAt, St.isMem, St.root, St.wrote, St.kill, St.setRoot, TS.kill, TV.kill, C.kill, Rt.kill, hitR, hitP, shapeOf, setRow, setAt, rowAt, D.row, D.reRow, List.isPrefixOf, St.nest, St.kill, St.setRoot, St.root, List.getElem?_set_self', List.set_set, hg]; rfl) (by rfl) (by repeat first | exact .nil | refine GiveNs.cons (.ro _) ?_ | refine GiveNs.cons .it ?_) rfl (by simp [St.store1, St.storeAll, St.cellAt, St.isMem, St.root, St.wrote, St.kill, St.setRoot, TS.kill, TV.kill, C.kill, Rt.kill, hitR, hitP, shapeOf, setRow, setAt, rowAt, D.row, D.reRow, List.isPrefixOf, St.nest, St.kill, St.setRoot, St.root, List.getElem?_set_self', List.set_set, hg]; rfl) (by simp only [St.put, List.set_cons_succ, List.set_cons_zero]; rfl) ?_
      refine TL.valE rfl (Val.assign 1 rfl rfl) (by simp only [St.put, List.set_cons_succ, List.set_cons_zero]; rfl) ?_
      refine TL.nil ?_
      show TC _ _ _ _ _ _
      refine TC.seq ?_
      -- region 10
      refine TC.region ?_
      refine TL.valE rfl (Val.move 1 rfl rfl) (by simp only [St.put, List.set_cons_succ, List.set_cons_zero]; rfl) ?_
      refine TL.valE rfl (Val.move 1 rfl rfl) (by simp only [St.put, List.set_cons_succ, List.set_cons_zero]; rfl) ?_
      refine TL.valE rfl (by exact Val.index rfl rfl rfl rfl rfl rfl (by omega) (by simp [hLl]; omega)) (by simp only [St.put, List.set_cons_succ, List.set_cons_zero]; rfl) ?_
      refine TL.valE rfl (by first | exact Val.field rfl rfl rfl | exact Val.fieldC rfl rfl rfl) (by simp only [St.put, List.set_cons_succ, List.set_cons_zero, List.getElem_toArray, List.getElem_cons_succ, List.getElem_cons_zero, Nat.zero_add, Nat.reduceAdd]; rfl) ?_
      refine TL.valE rfl (by exact Val.load rfl rfl rfl (c := .own (.sl 2 (x.Live.map dSlot))) (by simp [St.store1, St.storeAll, St.cellAt, St.isMem, St.root, St.wrote, St.kill, St.setRoot, TS.kill, TV.kill, C.kill, Rt.kill, hitR, hitP, shapeOf, setRow, setAt, rowAt, D.row, D.reRow, List.isPrefixOf, St.nest, St.kill, St.setRoot, St.root, List.getElem?_set_self', List.set_set, hg]; done) rfl) (by simp only [St.put, List.set_cons_succ, List.set_cons_zero, valC]; rfl) ?_
      refine TL.valE rfl (Val.move 1 rfl rfl) (by simp only [St.put, List.set_cons_succ, List.set_cons_zero]; rfl) ?_
      refine TL.callN (k1 := 1000000) (q0 := 0) (i0 := i) (j := 4) (yes_none rfl) rfl rfl rfl rfl rfl rfl (laws_markSlotS_f x.Live ((k + m) + cntInsS x.Prog + 1 + 1 + cntSlotS x.Written) (by omega) (by omega) (hsx.2.2.1)) rfl rfl (by simp [St.store1, St.storeAll, St.cellAt, St.isMem, St.root, St.wrote, St.kill, St.setRoot, TS.kill, TV.kill, C.kill, Rt.kill, hitR, hitP, shapeOf, setRow, setAt, rowAt, D.row, D.reRow, List.isPrefixOf, St.nest, St.kill, St.setRoot, St.root, List.getElem?_set_self', List.set_set, hg]; rfl) (by rfl) (by repeat first | exact .nil | refine GiveNs.cons (.ro _) ?_ | refine GiveNs.cons .it ?_) rfl (by simp [St.store1, St.storeAll, St.cellAt, St.isMem, St.root, St.wrote, St.kill, St.setRoot, TS.kill, TV.kill, C.kill, Rt.kill, hitR, hitP, shapeOf, setRow, setAt, rowAt, D.row, D.reRow, List.isPrefixOf, St.nest, St.kill, St.setRoot, St.root, List.getElem?_set_self', List.set_set, hg]; rfl) (by simp only [St.put, List.set_cons_succ, List.set_cons_zero]; rfl) ?_
      refine TL.valE rfl (Val.assign 1 rfl rfl) (by simp only [St.put, List.set_cons_succ, List.set_cons_zero]; rfl) ?_
      refine TL.nil ?_
      show TC _ _ _ _ _ _
      refine TC.seq ?_
      -- region 11
      refine TC.region ?_
      refine TL.valE rfl (Val.move 1 rfl rfl) (by simp only [St.put, List.set_cons_succ, List.set_cons_zero]; rfl) ?_
      refine TL.valE rfl (Val.move 1 rfl rfl) (by simp only [St.put, List.set_cons_succ, List.set_cons_zero]; rfl) ?_
      refine TL.valE rfl (Val.move 1 rfl rfl) (by simp only [St.put, List.set_cons_succ, List.set_cons_zero]; rfl) ?_
      refine TL.valE rfl (by exact Val.index rfl rfl rfl rfl rfl rfl (by omega) (by simp [hLl]; omega)) (by simp only [St.put, List.set_cons_succ, List.set_cons_zero]; rfl) ?_
      refine TL.valE rfl (by first | exact Val.field rfl rfl rfl | exact Val.fieldC rfl rfl rfl) (by simp only [St.put, List.set_cons_succ, List.set_cons_zero, List.getElem_toArray, List.getElem_cons_succ, List.getElem_cons_zero, Nat.zero_add, Nat.reduceAdd]; rfl) ?_
      refine TL.valE rfl (by first | exact Val.field rfl rfl rfl | exact Val.fieldC rfl rfl rfl) (by simp only [St.put, List.set_cons_succ, List.set_cons_zero, List.getElem_toArray, List.getElem_cons_succ, List.getElem_cons_zero, Nat.zero_add, Nat.reduceAdd]; rfl) ?_
      refine TL.opK rfl fun K hK => ?_
      refine OpT.store (z := 1) rfl rfl rfl rfl (by simp [St.store1, St.storeAll, St.cellAt, St.isMem, St.root, St.wrote, St.kill, St.setRoot, TS.kill, TV.kill, C.kill, Rt.kill, hitR, hitP, shapeOf, setRow, setAt, rowAt, D.row, D.reRow, List.isPrefixOf, St.nest, St.kill, St.setRoot, St.root, List.getElem?_set_self', List.set_set, hg]; rfl) rfl (by simp [St.store1, St.storeAll, St.cellAt, St.isMem, St.root, St.wrote, St.kill, St.setRoot, TS.kill, TV.kill, C.kill, Rt.kill, hitR, hitP, shapeOf, setRow, setAt, rowAt, D.row, D.reRow, List.isPrefixOf, St.nest, St.kill, St.setRoot, St.root, List.getElem?_set_self', List.set_set, hg]; rfl) ?_
      simp only [St.fresh, St.kill, St.setRoot, St.put, St.renew, TS.kill, TV.kill, C.kill, Rt.kill, boxC, List.map_cons, List.map_nil, List.filter_cons, List.filter_nil, List.set_cons_succ, List.set_cons_zero, List.contains_cons, List.contains_nil, Nat.reduceBEq, Nat.reduceBNe, St.wrote, hitR, hitP, shapeOf, List.isPrefixOf, List.append_eq, Bool.and_true, Bool.true_and, Bool.and_false, Bool.false_and, List.nil_append, List.cons_append, beq_self_eq_true, bne_self_eq_false, Bool.or_false, Bool.or_true, Bool.not_true, Bool.not_false, Bool.false_eq_true, if_true, if_false, reduceIte, resT, valsD, refsD, refD, nextD, nextsD, cellsD, isSl, List.append_nil]
      refine hK _ ?_
      clear hK K
      refine TL.nil ?_
      show TC _ _ _ _ _ _
      refine TC.seq ?_
      -- region 12
      refine TC.region ?_
      refine TL.valE rfl (Val.move 1 rfl rfl) (by simp only [St.put, List.set_cons_succ, List.set_cons_zero]; rfl) ?_
      refine TL.valE rfl (Val.add rfl rfl rfl (by first | omega | (simp only [List.length_map]; omega)) (by first | omega | (simp only [List.length_map]; omega))) (by simp only [St.put, List.set_cons_succ, List.set_cons_zero]; rfl) ?_
      refine TL.valE rfl (Val.assign 1 rfl rfl) (by simp only [St.put, List.set_cons_succ, List.set_cons_zero]; rfl) ?_
      refine TL.nil ?_
      show TC _ _ _ _ _ _
      refine TC.seq ?_
      -- region 13
      refine TC.region ?_
      refine TL.valE rfl (Val.move 1 rfl rfl) (by simp only [St.put, List.set_cons_succ, List.set_cons_zero]; rfl) ?_
      refine TL.valE rfl (Val.move 1 rfl rfl) (by simp only [St.put, List.set_cons_succ, List.set_cons_zero]; rfl) ?_
      refine TL.valE rfl (Val.move 1 rfl rfl) (by simp only [St.put, List.set_cons_succ, List.set_cons_zero]; rfl) ?_
      refine TL.valE rfl (by exact Val.index rfl rfl rfl rfl rfl rfl (by omega) (by simp [hLl]; omega)) (by simp only [St.put, List.set_cons_succ, List.set_cons_zero]; rfl) ?_
      refine TL.valE rfl (by first | exact Val.field rfl rfl rfl | exact Val.fieldC rfl rfl rfl) (by simp only [St.put, List.set_cons_succ, List.set_cons_zero, List.getElem_toArray, List.getElem_cons_succ, List.getElem_cons_zero, Nat.zero_add, Nat.reduceAdd]; rfl) ?_
      refine TL.valE rfl (by first | exact Val.field rfl rfl rfl | exact Val.fieldC rfl rfl rfl) (by simp only [St.put, List.set_cons_succ, List.set_cons_zero, List.getElem_toArray, List.getElem_cons_succ, List.getElem_cons_zero, Nat.zero_add, Nat.reduceAdd]; rfl) ?_
      refine TL.opK rfl fun K hK => ?_
      refine OpT.store (z := 1) rfl rfl rfl rfl (by simp [St.store1, St.storeAll, St.cellAt, St.isMem, St.root, St.wrote, St.kill, St.setRoot, TS.kill, TV.kill, C.kill, Rt.kill, hitR, hitP, shapeOf, setRow, setAt, rowAt, D.row, D.reRow, List.isPrefixOf, St.nest, St.kill, St.setRoot, St.root, List.getElem?_set_self', List.set_set, hg]; rfl) rfl (by simp [St.store1, St.storeAll, St.cellAt, St.isMem, St.root, St.wrote, St.kill, St.setRoot, TS.kill, TV.kill, C.kill, Rt.kill, hitR, hitP, shapeOf, setRow, setAt, rowAt, D.row, D.reRow, List.isPrefixOf, St.nest, St.kill, St.setRoot, St.root, List.getElem?_set_self', List.set_set, hg]; rfl) ?_
      simp only [St.fresh, St.kill, St.setRoot, St.put, St.renew, TS.kill, TV.kill, C.kill, Rt.kill, boxC, List.map_cons, List.map_nil, List.filter_cons, List.filter_nil, List.set_cons_succ, List.set_cons_zero, List.contains_cons, List.contains_nil, Nat.reduceBEq, Nat.reduceBNe, St.wrote, hitR, hitP, shapeOf, List.isPrefixOf, List.append_eq, Bool.and_true, Bool.true_and, Bool.and_false, Bool.false_and, List.nil_append, List.cons_append, beq_self_eq_true, bne_self_eq_false, Bool.or_false, Bool.or_true, Bool.not_true, Bool.not_false, Bool.false_eq_true, if_true, if_false, reduceIte, resT, valsD, refsD, refD, nextD, nextsD, cellsD, isSl, List.append_nil]
      refine hK _ ?_
      clear hK K
      refine TL.nil ?_
      show TC _ _ _ _ _ _
      refine TC.seq ?_
      -- region 14
      refine TC.region ?_
      refine TL.valE rfl (Val.move 1 rfl rfl) (by simp only [St.put, List.set_cons_succ, List.set_cons_zero]; rfl) ?_
      refine TL.valE rfl (Val.add rfl rfl rfl (by first | omega | (simp only [List.length_map]; omega)) (by first | omega | (simp only [List.length_map]; omega))) (by simp only [St.put, List.set_cons_succ, List.set_cons_zero]; rfl) ?_
      refine TL.valE rfl (Val.assign 1 rfl rfl) (by simp only [St.put, List.set_cons_succ, List.set_cons_zero]; rfl) ?_
      refine TL.nil ?_
      show TC _ _ _ _ _ _
      refine TC.seq ?_
      -- region 15
      refine TC.region ?_
      refine TL.valE rfl (Val.move 1 rfl rfl) (by simp only [St.put, List.set_cons_succ, List.set_cons_zero]; rfl) ?_
      refine TL.valE rfl (Val.move 1 rfl rfl) (by simp only [St.put, List.set_cons_succ, List.set_cons_zero]; rfl) ?_
      refine TL.valE rfl (Val.move 1 rfl rfl) (by simp only [St.put, List.set_cons_succ, List.set_cons_zero]; rfl) ?_
      refine TL.valE rfl (Val.rem rfl rfl rfl (by decide)) (by simp only [St.put, List.set_cons_succ, List.set_cons_zero]; rfl) ?_
      refine TL.valE rfl (Val.eql rfl rfl rfl) (by simp only [St.put, List.set_cons_succ, List.set_cons_zero]; rfl) ?_
      refine TL.valE rfl (by exact Val.index rfl rfl rfl rfl rfl rfl (by omega) (by simp [hLl]; omega)) (by simp only [St.put, List.set_cons_succ, List.set_cons_zero]; rfl) ?_
      refine TL.valE rfl (by first | exact Val.field rfl rfl rfl | exact Val.fieldC rfl rfl rfl) (by simp only [St.put, List.set_cons_succ, List.set_cons_zero, List.getElem_toArray, List.getElem_cons_succ, List.getElem_cons_zero, Nat.zero_add, Nat.reduceAdd]; rfl) ?_
      refine TL.valE rfl (by first | exact Val.field rfl rfl rfl | exact Val.fieldC rfl rfl rfl) (by simp only [St.put, List.set_cons_succ, List.set_cons_zero, List.getElem_toArray, List.getElem_cons_succ, List.getElem_cons_zero, Nat.zero_add, Nat.reduceAdd]; rfl) ?_
      refine TL.opK rfl fun K hK => ?_
      refine OpT.store (z := 1) rfl rfl rfl rfl (by simp [St.store1, St.storeAll, St.cellAt, St.isMem, St.root, St.wrote, St.kill, St.setRoot, TS.kill, TV.kill, C.kill, Rt.kill, hitR, hitP, shapeOf, setRow, setAt, rowAt, D.row, D.reRow, List.isPrefixOf, St.nest, St.kill, St.setRoot, St.root, List.getElem?_set_self', List.set_set, hg]; rfl) rfl (by simp [St.store1, St.storeAll, St.cellAt, St.isMem, St.root, St.wrote, St.kill, St.setRoot, TS.kill, TV.kill, C.kill, Rt.kill, hitR, hitP, shapeOf, setRow, setAt, rowAt, D.row, D.reRow, List.isPrefixOf, St.nest, St.kill, St.setRoot, St.root, List.getElem?_set_self', List.set_set, hg]; rfl) ?_
      simp only [St.fresh, St.kill, St.setRoot, St.put, St.renew, TS.kill, TV.kill, C.kill, Rt.kill, boxC, List.map_cons, List.map_nil, List.filter_cons, List.filter_nil, List.set_cons_succ, List.set_cons_zero, List.contains_cons, List.contains_nil, Nat.reduceBEq, Nat.reduceBNe, St.wrote, hitR, hitP, shapeOf, List.isPrefixOf, List.append_eq, Bool.and_true, Bool.true_and, Bool.and_false, Bool.false_and, List.nil_append, List.cons_append, beq_self_eq_true, bne_self_eq_false, Bool.or_false, Bool.or_true, Bool.not_true, Bool.not_false, Bool.false_eq_true, if_true, if_false, reduceIte, resT, valsD, refsD, refD, nextD, nextsD, cellsD, isSl, List.append_nil]
      refine hK _ ?_
      clear hK K
      refine TL.nil ?_
      show TC _ _ _ _ _ _
      refine TC.seq ?_
      -- region 16
      refine TC.region ?_
      refine TL.valE rfl (Val.move 1 rfl rfl) (by simp only [St.put, List.set_cons_succ, List.set_cons_zero]; rfl) ?_
      refine TL.valE rfl (Val.add rfl rfl rfl (by first | omega | (simp only [List.length_map]; omega)) (by first | omega | (simp only [List.length_map]; omega))) (by simp only [St.put, List.set_cons_succ, List.set_cons_zero]; rfl) ?_
      refine TL.valE rfl (Val.assign 1 rfl rfl) (by simp only [St.put, List.set_cons_succ, List.set_cons_zero]; rfl) ?_
      refine TL.nil ?_
      show TC _ _ _ _ _ _
      refine TC.seq ?_
      -- region 17
      refine TC.region ?_
      refine TL.valE rfl (Val.move 1 rfl rfl) (by simp only [St.put, List.set_cons_succ, List.set_cons_zero]; rfl) ?_
      refine TL.valE rfl (Val.move 1 rfl rfl) (by simp only [St.put, List.set_cons_succ, List.set_cons_zero]; rfl) ?_
      refine TL.valE rfl (Val.move 1 rfl rfl) (by simp only [St.put, List.set_cons_succ, List.set_cons_zero]; rfl) ?_
      refine TL.valE rfl (by exact Val.index rfl rfl rfl rfl rfl rfl (by omega) (by simp [hLl]; omega)) (by simp only [St.put, List.set_cons_succ, List.set_cons_zero]; rfl) ?_
      refine TL.valE rfl (by first | exact Val.field rfl rfl rfl | exact Val.fieldC rfl rfl rfl) (by simp only [St.put, List.set_cons_succ, List.set_cons_zero, List.getElem_toArray, List.getElem_cons_succ, List.getElem_cons_zero, Nat.zero_add, Nat.reduceAdd]; rfl) ?_
      refine TL.opK rfl fun K hK => ?_
      refine OpT.store (z := 1) rfl rfl rfl rfl (by simp [St.store1, St.storeAll, St.cellAt, St.isMem, St.root, St.wrote, St.kill, St.setRoot, TS.kill, TV.kill, C.kill, Rt.kill, hitR, hitP, shapeOf, setRow, setAt, rowAt, D.row, D.reRow, List.isPrefixOf, St.nest, St.kill, St.setRoot, St.root, List.getElem?_set_self', List.set_set, hg]; rfl) rfl (by simp [St.store1, St.storeAll, St.cellAt, St.isMem, St.root, St.wrote, St.kill, St.setRoot, TS.kill, TV.kill, C.kill, Rt.kill, hitR, hitP, shapeOf, setRow, setAt, rowAt, D.row, D.reRow, List.isPrefixOf, St.nest, St.kill, St.setRoot, St.root, List.getElem?_set_self', List.set_set, hg]; rfl) ?_
      simp only [St.fresh, St.kill, St.setRoot, St.put, St.renew, TS.kill, TV.kill, C.kill, Rt.kill, boxC, List.map_cons, List.map_nil, List.filter_cons, List.filter_nil, List.set_cons_succ, List.set_cons_zero, List.contains_cons, List.contains_nil, Nat.reduceBEq, Nat.reduceBNe, St.wrote, hitR, hitP, shapeOf, List.isPrefixOf, List.append_eq, Bool.and_true, Bool.true_and, Bool.and_false, Bool.false_and, List.nil_append, List.cons_append, beq_self_eq_true, bne_self_eq_false, Bool.or_false, Bool.or_true, Bool.not_true, Bool.not_false, Bool.false_eq_true, if_true, if_false, reduceIte, resT, valsD, refsD, refD, nextD, nextsD, cellsD, isSl, List.append_nil]
      refine hK _ ?_
      clear hK K
      refine TL.nil ?_
      show TC _ _ _ _ _ _
      refine TC.seq ?_
      -- region 18
      refine TC.region ?_
      refine TL.valE rfl (Val.move 1 rfl rfl) (by simp only [St.put, List.set_cons_succ, List.set_cons_zero]; rfl) ?_
      refine TL.valE rfl (Val.add rfl rfl rfl (by first | omega | (simp only [List.length_map]; omega)) (by first | omega | (simp only [List.length_map]; omega))) (by simp only [St.put, List.set_cons_succ, List.set_cons_zero]; rfl) ?_
      refine TL.valE rfl (Val.assign 1 rfl rfl) (by simp only [St.put, List.set_cons_succ, List.set_cons_zero]; rfl) ?_
      refine TL.nil ?_
      show TC _ _ _ _ _ _
      refine TC.seq ?_
      -- region 19
      refine TC.region ?_
      refine TL.valE rfl (Val.move 1 rfl rfl) (by simp only [St.put, List.set_cons_succ, List.set_cons_zero]; rfl) ?_
      refine TL.valE rfl (Val.move 1 rfl rfl) (by simp only [St.put, List.set_cons_succ, List.set_cons_zero]; rfl) ?_
      refine TL.valE rfl (Val.move 1 rfl rfl) (by simp only [St.put, List.set_cons_succ, List.set_cons_zero]; rfl) ?_
      refine TL.valE rfl (by exact Val.index rfl rfl rfl rfl rfl rfl (by omega) (by simp [hLl]; omega)) (by simp only [St.put, List.set_cons_succ, List.set_cons_zero]; rfl) ?_
      refine TL.valE rfl (by first | exact Val.field rfl rfl rfl | exact Val.fieldC rfl rfl rfl) (by simp only [St.put, List.set_cons_succ, List.set_cons_zero, List.getElem_toArray, List.getElem_cons_succ, List.getElem_cons_zero, Nat.zero_add, Nat.reduceAdd]; rfl) ?_
      refine TL.valE rfl (by first | exact Val.field rfl rfl rfl | exact Val.fieldC rfl rfl rfl) (by simp only [St.put, List.set_cons_succ, List.set_cons_zero, List.getElem_toArray, List.getElem_cons_succ, List.getElem_cons_zero, Nat.zero_add, Nat.reduceAdd]; rfl) ?_
      refine TL.opK rfl fun K hK => ?_
      refine OpT.store (z := 1) rfl rfl rfl rfl (by simp [St.store1, St.storeAll, St.cellAt, St.isMem, St.root, St.wrote, St.kill, St.setRoot, TS.kill, TV.kill, C.kill, Rt.kill, hitR, hitP, shapeOf, setRow, setAt, rowAt, D.row, D.reRow, List.isPrefixOf, St.nest, St.kill, St.setRoot, St.root, List.getElem?_set_self', List.set_set, hg]; rfl) rfl (by simp [St.store1, St.storeAll, St.cellAt, St.isMem, St.root, St.wrote, St.kill, St.setRoot, TS.kill, TV.kill, C.kill, Rt.kill, hitR, hitP, shapeOf, setRow, setAt, rowAt, D.row, D.reRow, List.isPrefixOf, St.nest, St.kill, St.setRoot, St.root, List.getElem?_set_self', List.set_set, hg]; rfl) ?_
      simp only [St.fresh, St.kill, St.setRoot, St.put, St.renew, TS.kill, TV.kill, C.kill, Rt.kill, boxC, List.map_cons, List.map_nil, List.filter_cons, List.filter_nil, List.set_cons_succ, List.set_cons_zero, List.contains_cons, List.contains_nil, Nat.reduceBEq, Nat.reduceBNe, St.wrote, hitR, hitP, shapeOf, List.isPrefixOf, List.append_eq, Bool.and_true, Bool.true_and, Bool.and_false, Bool.false_and, List.nil_append, List.cons_append, beq_self_eq_true, bne_self_eq_false, Bool.or_false, Bool.or_true, Bool.not_true, Bool.not_false, Bool.false_eq_true, if_true, if_false, reduceIte, resT, valsD, refsD, refD, nextD, nextsD, cellsD, isSl, List.append_nil]
      refine hK _ ?_
      clear hK K
      refine TL.nil ?_
      show TC _ _ _ _ _ _
      refine TC.seq ?_
      -- region 20
      refine TC.region ?_
      refine TL.valE rfl (Val.move 1 rfl rfl) (by simp only [St.put, List.set_cons_succ, List.set_cons_zero]; rfl) ?_
      refine TL.valE rfl (Val.add rfl rfl rfl (by first | omega | (simp only [List.length_map]; omega)) (by first | omega | (simp only [List.length_map]; omega))) (by simp only [St.put, List.set_cons_succ, List.set_cons_zero]; rfl) ?_
      refine TL.valE rfl (Val.assign 1 rfl rfl) (by simp only [St.put, List.set_cons_succ, List.set_cons_zero]; rfl) ?_
      refine TL.nil ?_
      show TC _ _ _ _ _ _
      refine TC.seq ?_
      -- region 21
      refine TC.region ?_
      refine TL.valE rfl (Val.move 1 rfl rfl) (by simp only [St.put, List.set_cons_succ, List.set_cons_zero]; rfl) ?_
      refine TL.valE rfl (Val.move 1 rfl rfl) (by simp only [St.put, List.set_cons_succ, List.set_cons_zero]; rfl) ?_
      refine TL.valE rfl (Val.move 1 rfl rfl) (by simp only [St.put, List.set_cons_succ, List.set_cons_zero]; rfl) ?_
      refine TL.valE rfl (by exact Val.index rfl rfl rfl rfl rfl rfl (by omega) (by simp [hLl]; omega)) (by simp only [St.put, List.set_cons_succ, List.set_cons_zero]; rfl) ?_
      refine TL.valE rfl (by first | exact Val.field rfl rfl rfl | exact Val.fieldC rfl rfl rfl) (by simp only [St.put, List.set_cons_succ, List.set_cons_zero, List.getElem_toArray, List.getElem_cons_succ, List.getElem_cons_zero, Nat.zero_add, Nat.reduceAdd]; rfl) ?_
      refine TL.valE rfl (by first | exact Val.field rfl rfl rfl | exact Val.fieldC rfl rfl rfl) (by simp only [St.put, List.set_cons_succ, List.set_cons_zero, List.getElem_toArray, List.getElem_cons_succ, List.getElem_cons_zero, Nat.zero_add, Nat.reduceAdd]; rfl) ?_
      refine TL.opK rfl fun K hK => ?_
      refine OpT.store (z := 1) rfl rfl rfl rfl (by simp [St.store1, St.storeAll, St.cellAt, St.isMem, St.root, St.wrote, St.kill, St.setRoot, TS.kill, TV.kill, C.kill, Rt.kill, hitR, hitP, shapeOf, setRow, setAt, rowAt, D.row, D.reRow, List.isPrefixOf, St.nest, St.kill, St.setRoot, St.root, List.getElem?_set_self', List.set_set, hg]; rfl) rfl (by simp [St.store1, St.storeAll, St.cellAt, St.isMem, St.root, St.wrote, St.kill, St.setRoot, TS.kill, TV.kill, C.kill, Rt.kill, hitR, hitP, shapeOf, setRow, setAt, rowAt, D.row, D.reRow, List.isPrefixOf, St.nest, St.kill, St.setRoot, St.root, List.getElem?_set_self', List.set_set, hg]; rfl) ?_
      simp only [St.fresh, St.kill, St.setRoot, St.put, St.renew, TS.kill, TV.kill, C.kill, Rt.kill, boxC, List.map_cons, List.map_nil, List.filter_cons, List.filter_nil, List.set_cons_succ, List.set_cons_zero, List.contains_cons, List.contains_nil, Nat.reduceBEq, Nat.reduceBNe, St.wrote, hitR, hitP, shapeOf, List.isPrefixOf, List.append_eq, Bool.and_true, Bool.true_and, Bool.and_false, Bool.false_and, List.nil_append, List.cons_append, beq_self_eq_true, bne_self_eq_false, Bool.or_false, Bool.or_true, Bool.not_true, Bool.not_false, Bool.false_eq_true, if_true, if_false, reduceIte, resT, valsD, refsD, refD, nextD, nextsD, cellsD, isSl, List.append_nil]
      refine hK _ ?_
      clear hK K
      refine TL.nil ?_
      show TC _ _ _ _ _ _
      refine TC.seq ?_
      -- region 22
      refine TC.region ?_
      refine TL.valE rfl (Val.move 1 rfl rfl) (by simp only [St.put, List.set_cons_succ, List.set_cons_zero]; rfl) ?_
      refine TL.valE rfl (Val.add rfl rfl rfl (by first | omega | (simp only [List.length_map]; omega)) (by first | omega | (simp only [List.length_map]; omega))) (by simp only [St.put, List.set_cons_succ, List.set_cons_zero]; rfl) ?_
      refine TL.valE rfl (Val.assign 1 rfl rfl) (by simp only [St.put, List.set_cons_succ, List.set_cons_zero]; rfl) ?_
      refine TL.nil ?_
      show TC _ _ _ _ _ _
      refine TC.seq ?_
      -- region 23
      refine TC.region ?_
      refine TL.valE rfl (Val.move 1 rfl rfl) (by simp only [St.put, List.set_cons_succ, List.set_cons_zero]; rfl) ?_
      refine TL.valE rfl (Val.move 1 rfl rfl) (by simp only [St.put, List.set_cons_succ, List.set_cons_zero]; rfl) ?_
      refine TL.valE rfl (Val.move 1 rfl rfl) (by simp only [St.put, List.set_cons_succ, List.set_cons_zero]; rfl) ?_
      refine TL.valE rfl (Val.rem rfl rfl rfl (by decide)) (by simp only [St.put, List.set_cons_succ, List.set_cons_zero]; rfl) ?_
      refine TL.valE rfl (Val.eql rfl rfl rfl) (by simp only [St.put, List.set_cons_succ, List.set_cons_zero]; rfl) ?_
      refine TL.valE rfl (by exact Val.index rfl rfl rfl rfl rfl rfl (by omega) (by simp [hLl]; omega)) (by simp only [St.put, List.set_cons_succ, List.set_cons_zero]; rfl) ?_
      refine TL.valE rfl (by first | exact Val.field rfl rfl rfl | exact Val.fieldC rfl rfl rfl) (by simp only [St.put, List.set_cons_succ, List.set_cons_zero, List.getElem_toArray, List.getElem_cons_succ, List.getElem_cons_zero, Nat.zero_add, Nat.reduceAdd]; rfl) ?_
      refine TL.valE rfl (by first | exact Val.field rfl rfl rfl | exact Val.fieldC rfl rfl rfl) (by simp only [St.put, List.set_cons_succ, List.set_cons_zero, List.getElem_toArray, List.getElem_cons_succ, List.getElem_cons_zero, Nat.zero_add, Nat.reduceAdd]; rfl) ?_
      refine TL.opK rfl fun K hK => ?_
      refine OpT.store (z := 1) rfl rfl rfl rfl (by simp [St.store1, St.storeAll, St.cellAt, St.isMem, St.root, St.wrote, St.kill, St.setRoot, TS.kill, TV.kill, C.kill, Rt.kill, hitR, hitP, shapeOf, setRow, setAt, rowAt, D.row, D.reRow, List.isPrefixOf, St.nest, St.kill, St.setRoot, St.root, List.getElem?_set_self', List.set_set, hg]; rfl) rfl (by simp [St.store1, St.storeAll, St.cellAt, St.isMem, St.root, St.wrote, St.kill, St.setRoot, TS.kill, TV.kill, C.kill, Rt.kill, hitR, hitP, shapeOf, setRow, setAt, rowAt, D.row, D.reRow, List.isPrefixOf, St.nest, St.kill, St.setRoot, St.root, List.getElem?_set_self', List.set_set, hg]; rfl) ?_
      simp only [St.fresh, St.kill, St.setRoot, St.put, St.renew, TS.kill, TV.kill, C.kill, Rt.kill, boxC, List.map_cons, List.map_nil, List.filter_cons, List.filter_nil, List.set_cons_succ, List.set_cons_zero, List.contains_cons, List.contains_nil, Nat.reduceBEq, Nat.reduceBNe, St.wrote, hitR, hitP, shapeOf, List.isPrefixOf, List.append_eq, Bool.and_true, Bool.true_and, Bool.and_false, Bool.false_and, List.nil_append, List.cons_append, beq_self_eq_true, bne_self_eq_false, Bool.or_false, Bool.or_true, Bool.not_true, Bool.not_false, Bool.false_eq_true, if_true, if_false, reduceIte, resT, valsD, refsD, refD, nextD, nextsD, cellsD, isSl, List.append_nil]
      refine hK _ ?_
      clear hK K
      refine TL.nil ?_
      show TC _ _ _ _ _ _
      refine TC.seq ?_
      -- region 24
      refine TC.region ?_
      refine TL.valE rfl (Val.move 1 rfl rfl) (by simp only [St.put, List.set_cons_succ, List.set_cons_zero]; rfl) ?_
      refine TL.valE rfl (Val.add rfl rfl rfl (by first | omega | (simp only [List.length_map]; omega)) (by first | omega | (simp only [List.length_map]; omega))) (by simp only [St.put, List.set_cons_succ, List.set_cons_zero]; rfl) ?_
      refine TL.valE rfl (Val.assign 1 rfl rfl) (by simp only [St.put, List.set_cons_succ, List.set_cons_zero]; rfl) ?_
      refine TL.nil ?_
      show TC _ _ _ _ _ _
      refine TC.seq ?_
      -- region 25
      refine TC.region ?_
      refine TL.valE rfl (Val.move 1 rfl rfl) (by simp only [St.put, List.set_cons_succ, List.set_cons_zero]; rfl) ?_
      refine TL.valE rfl (Val.move 1 rfl rfl) (by simp only [St.put, List.set_cons_succ, List.set_cons_zero]; rfl) ?_
      refine TL.valE rfl (Val.move 1 rfl rfl) (by simp only [St.put, List.set_cons_succ, List.set_cons_zero]; rfl) ?_
      refine TL.valE rfl (by exact Val.index rfl rfl rfl rfl rfl rfl (by omega) (by simp [hLl]; omega)) (by simp only [St.put, List.set_cons_succ, List.set_cons_zero]; rfl) ?_
      refine TL.valE rfl (by first | exact Val.field rfl rfl rfl | exact Val.fieldC rfl rfl rfl) (by simp only [St.put, List.set_cons_succ, List.set_cons_zero, List.getElem_toArray, List.getElem_cons_succ, List.getElem_cons_zero, Nat.zero_add, Nat.reduceAdd]; rfl) ?_
      refine TL.valE rfl (by first | exact Val.field rfl rfl rfl | exact Val.fieldC rfl rfl rfl) (by simp only [St.put, List.set_cons_succ, List.set_cons_zero, List.getElem_toArray, List.getElem_cons_succ, List.getElem_cons_zero, Nat.zero_add, Nat.reduceAdd]; rfl) ?_
      refine TL.opK rfl fun K hK => ?_
      refine OpT.store (z := 1) rfl rfl rfl rfl (by simp [St.store1, St.storeAll, St.cellAt, St.isMem, St.root, St.wrote, St.kill, St.setRoot, TS.kill, TV.kill, C.kill, Rt.kill, hitR, hitP, shapeOf, setRow, setAt, rowAt, D.row, D.reRow, List.isPrefixOf, St.nest, St.kill, St.setRoot, St.root, List.getElem?_set_self', List.set_set, hg]; rfl) rfl (by simp [St.store1, St.storeAll, St.cellAt, St.isMem, St.root, St.wrote, St.kill, St.setRoot, TS.kill, TV.kill, C.kill, Rt.kill, hitR, hitP, shapeOf, setRow, setAt, rowAt, D.row, D.reRow, List.isPrefixOf, St.nest, St.kill, St.setRoot, St.root, List.getElem?_set_self', List.set_set, hg]; rfl) ?_
      simp only [St.fresh, St.kill, St.setRoot, St.put, St.renew, TS.kill, TV.kill, C.kill, Rt.kill, boxC, List.map_cons, List.map_nil, List.filter_cons, List.filter_nil, List.set_cons_succ, List.set_cons_zero, List.contains_cons, List.contains_nil, Nat.reduceBEq, Nat.reduceBNe, St.wrote, hitR, hitP, shapeOf, List.isPrefixOf, List.append_eq, Bool.and_true, Bool.true_and, Bool.and_false, Bool.false_and, List.nil_append, List.cons_append, beq_self_eq_true, bne_self_eq_false, Bool.or_false, Bool.or_true, Bool.not_true, Bool.not_false, Bool.false_eq_true, if_true, if_false, reduceIte, resT, valsD, refsD, refD, nextD, nextsD, cellsD, isSl, List.append_nil]
      refine hK _ ?_
      clear hK K
      refine TL.nil ?_
      show TC _ _ _ _ _ _
      refine TC.seq ?_
      -- region 26
      refine TC.region ?_
      refine TL.valE rfl (Val.move 1 rfl rfl) (by simp only [St.put, List.set_cons_succ, List.set_cons_zero]; rfl) ?_
      refine TL.valE rfl (Val.add rfl rfl rfl (by first | omega | (simp only [List.length_map]; omega)) (by first | omega | (simp only [List.length_map]; omega))) (by simp only [St.put, List.set_cons_succ, List.set_cons_zero]; rfl) ?_
      refine TL.valE rfl (Val.assign 1 rfl rfl) (by simp only [St.put, List.set_cons_succ, List.set_cons_zero]; rfl) ?_
      refine TL.nil ?_
      show TC _ _ _ _ _ _
      refine TC.seq ?_
      -- region 27
      refine TC.region ?_
      refine TL.valE rfl (Val.move 1 rfl rfl) (by simp only [St.put, List.set_cons_succ, List.set_cons_zero]; rfl) ?_
      refine TL.valE rfl (Val.move 1 rfl rfl) (by simp only [St.put, List.set_cons_succ, List.set_cons_zero]; rfl) ?_
      refine TL.valE rfl (Val.move 1 rfl rfl) (by simp only [St.put, List.set_cons_succ, List.set_cons_zero]; rfl) ?_
      refine TL.valE rfl (Val.rem rfl rfl rfl (by decide)) (by simp only [St.put, List.set_cons_succ, List.set_cons_zero]; rfl) ?_
      refine TL.valE rfl (Val.eql rfl rfl rfl) (by simp only [St.put, List.set_cons_succ, List.set_cons_zero]; rfl) ?_
      refine TL.valE rfl (by exact Val.index rfl rfl rfl rfl rfl rfl (by omega) (by simp [hLl]; omega)) (by simp only [St.put, List.set_cons_succ, List.set_cons_zero]; rfl) ?_
      refine TL.valE rfl (by first | exact Val.field rfl rfl rfl | exact Val.fieldC rfl rfl rfl) (by simp only [St.put, List.set_cons_succ, List.set_cons_zero, List.getElem_toArray, List.getElem_cons_succ, List.getElem_cons_zero, Nat.zero_add, Nat.reduceAdd]; rfl) ?_
      refine TL.opK rfl fun K hK => ?_
      refine OpT.store (z := 1) rfl rfl rfl rfl (by simp [St.store1, St.storeAll, St.cellAt, St.isMem, St.root, St.wrote, St.kill, St.setRoot, TS.kill, TV.kill, C.kill, Rt.kill, hitR, hitP, shapeOf, setRow, setAt, rowAt, D.row, D.reRow, List.isPrefixOf, St.nest, St.kill, St.setRoot, St.root, List.getElem?_set_self', List.set_set, hg]; rfl) rfl (by simp [St.store1, St.storeAll, St.cellAt, St.isMem, St.root, St.wrote, St.kill, St.setRoot, TS.kill, TV.kill, C.kill, Rt.kill, hitR, hitP, shapeOf, setRow, setAt, rowAt, D.row, D.reRow, List.isPrefixOf, St.nest, St.kill, St.setRoot, St.root, List.getElem?_set_self', List.set_set, hg]; rfl) ?_
      simp only [St.fresh, St.kill, St.setRoot, St.put, St.renew, TS.kill, TV.kill, C.kill, Rt.kill, boxC, List.map_cons, List.map_nil, List.filter_cons, List.filter_nil, List.set_cons_succ, List.set_cons_zero, List.contains_cons, List.contains_nil, Nat.reduceBEq, Nat.reduceBNe, St.wrote, hitR, hitP, shapeOf, List.isPrefixOf, List.append_eq, Bool.and_true, Bool.true_and, Bool.and_false, Bool.false_and, List.nil_append, List.cons_append, beq_self_eq_true, bne_self_eq_false, Bool.or_false, Bool.or_true, Bool.not_true, Bool.not_false, Bool.false_eq_true, if_true, if_false, reduceIte, resT, valsD, refsD, refD, nextD, nextsD, cellsD, isSl, List.append_nil]
      refine hK _ ?_
      clear hK K
      refine TL.nil ?_
      show TC _ _ _ _ _ _
      refine TC.seq ?_
      -- region 28
      refine TC.region ?_
      refine TL.valE rfl (Val.move 1 rfl rfl) (by simp only [St.put, List.set_cons_succ, List.set_cons_zero]; rfl) ?_
      refine TL.valE rfl (Val.add rfl rfl rfl (by first | omega | (simp only [List.length_map]; omega)) (by first | omega | (simp only [List.length_map]; omega))) (by simp only [St.put, List.set_cons_succ, List.set_cons_zero]; rfl) ?_
      refine TL.valE rfl (Val.assign 1 rfl rfl) (by simp only [St.put, List.set_cons_succ, List.set_cons_zero]; rfl) ?_
      refine TL.nil ?_
      show TC _ _ _ _ _ _
      -- region 29
      refine TC.region ?_
      refine TL.valE rfl (Val.move 1 rfl rfl) (by simp only [St.put, List.set_cons_succ, List.set_cons_zero]; rfl) ?_
      refine TL.valE rfl (Val.move 1 rfl rfl) (by simp only [St.put, List.set_cons_succ, List.set_cons_zero]; rfl) ?_
      refine TL.valE rfl (by exact Val.index rfl rfl rfl rfl rfl rfl (by omega) (by simp [hLl]; omega)) (by simp only [St.put, List.set_cons_succ, List.set_cons_zero]; rfl) ?_
      refine TL.valE rfl (by first | exact Val.field rfl rfl rfl | exact Val.fieldC rfl rfl rfl) (by simp only [St.put, List.set_cons_succ, List.set_cons_zero, List.getElem_toArray, List.getElem_cons_succ, List.getElem_cons_zero, Nat.zero_add, Nat.reduceAdd]; rfl) ?_
      refine TL.valE rfl (by exact Val.load rfl rfl rfl (c := .own (.sl 1 (x.Seen.map dInt))) (by simp [St.store1, St.storeAll, St.cellAt, St.isMem, St.root, St.wrote, St.kill, St.setRoot, TS.kill, TV.kill, C.kill, Rt.kill, hitR, hitP, shapeOf, setRow, setAt, rowAt, D.row, D.reRow, List.isPrefixOf, St.nest, St.kill, St.setRoot, St.root, List.getElem?_set_self', List.set_set, hg]; done) rfl) (by simp only [St.put, List.set_cons_succ, List.set_cons_zero, valC]; rfl) ?_
      refine TL.valE rfl (Val.move 1 rfl rfl) (by simp only [St.put, List.set_cons_succ, List.set_cons_zero]; rfl) ?_
      refine TL.callN (k1 := 1000000) (q0 := 0) (i0 := i) (j := 14) (yes_none rfl) rfl rfl rfl rfl rfl rfl (laws_markIntS_f x.Seen ((k + m) + cntInsS x.Prog + 1 + 1 + cntSlotS x.Written + cntSlotS x.Live + 1 + 1 + 1 + 1 + 1 + 1 + 1 + 1 + 1) (by omega) (by omega) (hsx.2.2.2)) rfl rfl (by simp [St.store1, St.storeAll, St.cellAt, St.isMem, St.root, St.wrote, St.kill, St.setRoot, TS.kill, TV.kill, C.kill, Rt.kill, hitR, hitP, shapeOf, setRow, setAt, rowAt, D.row, D.reRow, List.isPrefixOf, St.nest, St.kill, St.setRoot, St.root, List.getElem?_set_self', List.set_set, hg]; rfl) (by rfl) (by repeat first | exact .nil | refine GiveNs.cons (.ro _) ?_ | refine GiveNs.cons .it ?_) rfl (by simp [St.store1, St.storeAll, St.cellAt, St.isMem, St.root, St.wrote, St.kill, St.setRoot, TS.kill, TV.kill, C.kill, Rt.kill, hitR, hitP, shapeOf, setRow, setAt, rowAt, D.row, D.reRow, List.isPrefixOf, St.nest, St.kill, St.setRoot, St.root, List.getElem?_set_self', List.set_set, hg]; rfl) (by simp only [St.put, List.set_cons_succ, List.set_cons_zero]; rfl) ?_
      refine TL.valE rfl (Val.assign 1 rfl rfl) (by simp only [St.put, List.set_cons_succ, List.set_cons_zero]; rfl) ?_
      refine TL.nil ?_
      show TC _ _ _ _ _ _
      -- region 3
      refine TC.region ?_
      refine TL.valE rfl (Val.move 1 rfl rfl) (by simp only [St.put, List.set_cons_succ, List.set_cons_zero]; rfl) ?_
      refine TL.valE rfl (Val.add rfl rfl rfl (by first | omega | (simp only [List.length_map]; omega)) (by first | omega | (simp only [List.length_map]; omega))) (by simp only [St.put, List.set_cons_succ, List.set_cons_zero]; rfl) ?_
      refine TL.valE rfl (Val.assign 1 rfl rfl) (by simp only [St.put, List.set_cons_succ, List.set_cons_zero]; rfl) ?_
      refine TL.nil ?_
      first | refine Seq.normal ⟨_, ?_, i + 1, ?_, rfl, ?_⟩ | refine Seq.normal (Q := fun _ _ => True) ⟨_, ?_, i + 1, ?_, rfl, ?_⟩
      · omega
      · omega
      · exact Can.to (by repeat first | exact LessT.nil | refine LessT.drop ?_ | refine LessT.keep ?_ | refine LessT.eq (by first | rfl | (simp; done) | exact congrArg (fun z : Int => (I z : TS)) (by rw [hcs]; omega) | exact congrArg (fun z : Int => (I z : TS)) (by omega)) ?_) (.cons rfl (by simp [hs]) .nil)
    · refine TC.exit ?_
      -- exit 0
      show TC _ _ _ _ _ _
      refine TC.seq ?_
      have hn : i = xs.length := (by simp [mix_len (mkGuestS_len k xs)] at hb; omega)
      subst hn
      rw [mix_all (mkGuestS_len k xs) (Nat.le_refl _), List.take_length]
      -- region 30
      refine TC.region ?_
      refine TL.valE rfl (Val.move 1 rfl rfl) (by simp only [St.put, List.set_cons_succ, List.set_cons_zero]; rfl) ?_
      refine TL.valE rfl (Val.assign 1 rfl rfl) (by simp only [St.put, List.set_cons_succ, List.set_cons_zero]; rfl) ?_
      refine TL.nil ?_
      show TC _ _ _ _ _ _
      refine TC.ret ?_
      exact ⟨.inr rfl, [_], [_], _, [.sl 15 ((mkGuestS k xs).map dGuest)], rfl, by decide, rfl, by simp [refV, refC, valC], rfl, rfl, by simp, rfl, ⟨rfl, rfl⟩⟩

-- loop.example/g00975/laws.markBare: params ['impl.Bare = loop.example/g00975/impl.Bare', 'int'] results ['int'] ('arr', [('app', 'Go.ResultVar.tmp', ['4'])])
theorem laws_markBare_f (x : VBare) (k : Int) (h1 : 0 ≤ k) (h2 : k + cntVBare x ≤ 1000000000000000) (hmx : SmBare x) : Fun2 Tryd.prog 19 (⟨false, [.sl 1 (x.Memory.map dIntS), .sl 15 (x.Guests.map dGuest), .sl 1 (x.Outs.map dInt)]⟩) [.one (.agg [.ref ⟨1000000, [], 0⟩, .ref ⟨1000000, [], 1⟩, .ref ⟨1000000, [], 2⟩, .ro (.v (.int .i64 x.Pending))]), I k] (RP2 [.sl 1 ((mkIntSS (k) x.Memory).map dIntS), .sl 15 ((mkGuestS (k + cntIntSS x.Memory) x.Guests).map dGuest), .sl 1 ((mkIntS (k + cntIntSS x.Memory + cntGuestS x.Guests) x.Outs).map dInt)] (I (k + cntIntSS x.Memory + cntGuestS x.Guests + cntIntS x.Outs))) := by
  refine Fun2.of Tryd.func19 rfl (by simp [Tryd.ntmps19]) fun w g0 => ?_
  simp only [Tryd.ntmps19, List.length_cons, List.length_nil, Nat.reduceAdd, Nat.reduceSub, List.replicate, List.cons_append, List.nil_append, Hand.k, pinK, pinB, if_true, if_false, Bool.false_eq_true, List.map_cons, List.map_nil]
  have hq0 := cntIntSS_nn x.Memory
  have hq1 := cntGuestS_nn x.Guests
  have hq2 := cntIntS_nn x.Outs
  simp only [cntVBare] at h2
  refine TC.seq ?_
  -- region 0
  refine TC.region ?_
  refine TL.opK rfl fun K hK => ?_
  first | refine OpT.box rfl rfl (z := 1) rfl (by simp) ?_ | refine OpT.boxAgg rfl rfl rfl ?_ -- 2
  simp only [St.fresh, St.kill, St.setRoot, St.put, St.renew, TS.kill, TV.kill, C.kill, Rt.kill, boxC, List.map_cons, List.map_nil, List.filter_cons, List.filter_nil, List.set_cons_succ, List.set_cons_zero, List.contains_cons, List.contains_nil, Nat.reduceBEq, Nat.reduceBNe, St.wrote, hitR, hitP, shapeOf, List.isPrefixOf, List.append_eq, Bool.and_true, Bool.true_and, Bool.and_false, Bool.false_and, List.nil_append, List.cons_append, beq_self_eq_true, bne_self_eq_false, Bool.or_false, Bool.or_true, Bool.not_true, Bool.not_false, Bool.false_eq_true, if_true, if_false, reduceIte, resT, valsD, refsD, refD, nextD, nextsD, cellsD, isSl, List.append_nil]
  refine hK _ ?_
  clear hK K
  refine TL.valE rfl (Val.assign 1 rfl rfl) (by simp only [St.put, List.set_cons_succ, List.set_cons_zero]; rfl) ?_
  refine TL.nil ?_
  show TC _ _ _ _ _ _
  refine TC.seq ?_
  -- region 1
  refine TC.region ?_
  refine TL.valE rfl (by first | exact Val.field rfl rfl rfl | exact Val.fieldC rfl rfl rfl) (by simp only [St.put, List.set_cons_succ, List.set_cons_zero, List.getElem_toArray, List.getElem_cons_succ, List.getElem_cons_zero, Nat.zero_add, Nat.reduceAdd]; rfl) ?_
  refine TL.valE rfl (by first | exact Val.load rfl rfl rfl rfl rfl | exact Val.loadC rfl rfl rfl) (by simp only [St.put, List.set_cons_succ, List.set_cons_zero, valC]; rfl) ?_
  refine TL.valE rfl (Val.move 1 rfl rfl) (by simp only [St.put, List.set_cons_succ, List.set_cons_zero]; rfl) ?_
  refine TL.call2 (yes_none rfl) rfl rfl rfl rfl rfl rfl (laws_markIntSS_f x.Memory (k) (by omega) (by omega) (hmx.1)) (srcs := [(1000000, 0)]) (bx := none) (.list rfl) (by repeat first | exact .nil | refine GivesAll.cons (.c (.ro _)) ?_ | refine GivesAll.cons (.c (.hand rfl)) ?_ | refine GivesAll.cons (.c (.snap rfl (by first | assumption | exact w_IntS _ | exact w_IntSS _ | exact w_InsS _ | exact w_SlotS _ | exact w_GuestS _) rfl)) ?_ | refine GivesAll.cons (.ptr rfl) ?_ | refine GivesAll.cons (.cptr _) ?_ | refine GivesAll.cons (.fn _) ?_ | refine GivesAll.cons (.agg (by repeat first | exact .nil | refine GiveCs.cons (.ro _) ?_ | refine GiveCs.cons (.hand rfl) ?_ | refine GiveCs.cons (.snap rfl (by first | assumption | exact w_IntS _ | exact w_IntSS _ | exact w_InsS _ | exact w_SlotS _ | exact w_GuestS _) rfl) ?_)) ?_) rfl (by simp [St.handed, killR, killP, topOf, handRow, idxOf, St.put, TS.kill, TV.kill, C.kill, boxSrc]; rfl) ?_
  refine TL.valE rfl (Val.assign 1 rfl rfl) (by simp only [St.put, List.set_cons_succ, List.set_cons_zero]; rfl) ?_
  refine TL.nil ?_
  show TC _ _ _ _ _ _
  refine TC.seq ?_
  -- region 2
  refine TC.region ?_
  refine TL.valE rfl (by first | exact Val.field rfl rfl rfl | exact Val.fieldC rfl rfl rfl) (by simp only [St.put, List.set_cons_succ, List.set_cons_zero, List.getElem_toArray, List.getElem_cons_succ, List.getElem_cons_zero, Nat.zero_add, Nat.reduceAdd]; rfl) ?_
  refine TL.valE rfl (by first | exact Val.load rfl rfl rfl rfl rfl | exact Val.loadC rfl rfl rfl) (by simp only [St.put, List.set_cons_succ, List.set_cons_zero, valC]; rfl) ?_
  refine TL.valE rfl (Val.move 1 rfl rfl) (by simp only [St.put, List.set_cons_succ, List.set_cons_zero]; rfl) ?_
  refine TL.call2 (yes_none rfl) rfl rfl rfl rfl rfl rfl (laws_markGuestS_f x.Guests (k + cntIntSS x.Memory) (by omega) (by omega) (hmx.2.1)) (srcs := [(1000000, 1)]) (bx := none) (.list rfl) (by repeat first | exact .nil | refine GivesAll.cons (.c (.ro _)) ?_ | refine GivesAll.cons (.c (.hand rfl)) ?_ | refine GivesAll.cons (.c (.snap rfl (by first | assumption | exact w_IntS _ | exact w_IntSS _ | exact w_InsS _ | exact w_SlotS _ | exact w_GuestS _) rfl)) ?_ | refine GivesAll.cons (.ptr rfl) ?_ | refine GivesAll.cons (.cptr _) ?_ | refine GivesAll.cons (.fn _) ?_ | refine GivesAll.cons (.agg (by repeat first | exact .nil | refine GiveCs.cons (.ro _) ?_ | refine GiveCs.cons (.hand rfl) ?_ | refine GiveCs.cons (.snap rfl (by first | assumption | exact w_IntS _ | exact w_IntSS _ | exact w_InsS _ | exact w_SlotS _ | exact w_GuestS _) rfl) ?_)) ?_) rfl (by simp [St.handed, killR, killP, topOf, handRow, idxOf, St.put, TS.kill, TV.kill, C.kill, boxSrc]; rfl) ?_
  refine TL.valE rfl (Val.assign 1 rfl rfl) (by simp only [St.put, List.set_cons_succ, List.set_cons_zero]; rfl) ?_
  refine TL.nil ?_
  show TC _ _ _ _ _ _
  refine TC.seq ?_
  -- region 3
  refine TC.region ?_
  refine TL.valE rfl (by first | exact Val.field rfl rfl rfl | exact Val.fieldC rfl rfl rfl) (by simp only [St.put, List.set_cons_succ, List.set_cons_zero, List.getElem_toArray, List.getElem_cons_succ, List.getElem_cons_zero, Nat.zero_add, Nat.reduceAdd]; rfl) ?_
  refine TL.valE rfl (by first | exact Val.load rfl rfl rfl rfl rfl | exact Val.loadC rfl rfl rfl) (by simp only [St.put, List.set_cons_succ, List.set_cons_zero, valC]; rfl) ?_
  refine TL.valE rfl (Val.move 1 rfl rfl) (by simp only [St.put, List.set_cons_succ, List.set_cons_zero]; rfl) ?_
  refine TL.call2 (yes_none rfl) rfl rfl rfl rfl rfl rfl (laws_markIntS_f x.Outs (k + cntIntSS x.Memory + cntGuestS x.Guests) (by omega) (by omega) (hmx.2.2)) (srcs := [(1000000, 2)]) (bx := none) (.list rfl) (by repeat first | exact .nil | refine GivesAll.cons (.c (.ro _)) ?_ | refine GivesAll.cons (.c (.hand rfl)) ?_ | refine GivesAll.cons (.c (.snap rfl (by first | assumption | exact w_IntS _ | exact w_IntSS _ | exact w_InsS _ | exact w_SlotS _ | exact w_GuestS _) rfl)) ?_ | refine GivesAll.cons (.ptr rfl) ?_ | refine GivesAll.cons (.cptr _) ?_ | refine GivesAll.cons (.fn _) ?_ | refine GivesAll.cons (.agg (by repeat first | exact .nil | refine GiveCs.cons (.ro _) ?_ | refine GiveCs.cons (.hand rfl) ?_ | refine GiveCs.cons (.snap rfl (by first | assumption | exact w_IntS _ | exact w_IntSS _ | exact w_InsS _ | exact w_SlotS _ | exact w_GuestS _) rfl) ?_)) ?_) rfl (by simp [St.handed, killR, killP, topOf, handRow, idxOf, St.put, TS.kill, TV.kill, C.kill, boxSrc]; rfl) ?_
  refine TL.valE rfl (Val.assign 1 rfl rfl) (by simp only [St.put, List.set_cons_succ, List.set_cons_zero]; rfl) ?_
  refine TL.nil ?_
  show TC _ _ _ _ _ _
  refine TC.seq ?_
  -- region 4
  refine TC.region ?_
  refine TL.valE rfl (Val.move 1 rfl rfl) (by simp only [St.put, List.set_cons_succ, List.set_cons_zero]; rfl) ?_
  refine TL.valE rfl (Val.assign 1 rfl rfl) (by simp only [St.put, List.set_cons_succ, List.set_cons_zero]; rfl) ?_
  refine TL.nil ?_
  show TC _ _ _ _ _ _
  refine TC.ret ?_
  exact ⟨.inr rfl, [_], [_], _, [.sl 1 ((mkIntSS (k) x.Memory).map dIntS), .sl 15 ((mkGuestS (k + cntIntSS x.Memory) x.Guests).map dGuest), .sl 1 ((mkIntS (k + cntIntSS x.Memory + cntGuestS x.Guests) x.Outs).map dInt)], rfl, by decide, rfl, by simp [refV, refC, valC], rfl, rfl, by simp, rfl, ⟨rfl, rfl⟩⟩

-- loop.example/g00975/laws.markStringS: params ['[]string', 'int'] results ['int'] ('arr', [('app', 'Go.ResultVar.tmp', ['4'])])
theorem laws_markStringS_f (xs : List ByteArray) (k : Int) (h1 : 0 ≤ k) (h2 : k + cntStrS xs ≤ 1000000000000000) (hmx : SmStrS xs) : Fun2 Tryd.prog 20 (⟨false, [.sl 1 (xs.map dStr)]⟩) [.one (.c (.ref ⟨1000000, [], 0⟩)), I k] (RP2 [.sl 1 ((mkStrS k xs).map dStr)] (I (k + cntStrS xs))) := by
  refine Fun2.of Tryd.func20 rfl (by simp [Tryd.ntmps20]) fun w g0 => ?_
  simp only [Tryd.ntmps20, List.length_cons, List.length_nil, Nat.reduceAdd, Nat.reduceSub, List.replicate, List.cons_append, List.nil_append, Hand.k, pinK, pinB, if_true, if_false, Bool.false_eq_true, List.map_cons, List.map_nil]
  refine TC.seq ?_
  -- region 0
  refine TC.region ?_
  refine TL.valE rfl (Val.assign 1 rfl rfl) (by simp only [St.put, List.set_cons_succ, List.set_cons_zero]; rfl) ?_
  refine TL.nil ?_
  show TC _ _ _ _ _ _
  refine TC.seq ?_
  refine TC.seq ?_
  -- region 1
  refine TC.region ?_
  refine TL.valE rfl (Val.assign 1 rfl rfl) (by simp only [St.put, List.set_cons_succ, List.set_cons_zero]; rfl) ?_
  refine TL.nil ?_
  show TC _ _ _ _ _ _
  refine TC.block ?_
  refine TC.loop (fun μ st => ∃ i : Nat, (i ≤ xs.length) ∧ μ = xs.length - i ∧ Can st ⟨[.one (.c (.ref ⟨1000000, [], 0⟩)), I (k + cntFold cntEStr (xs.take i)), .one .dead, .one .dead, .one .dead, I i, .one .dead, .one .dead, .one .dead, .one .dead, .one .dead, .one .dead, .one .dead, .one .dead, .one .dead, .one .dead, .one .dead, .one .dead, .one .dead, .one .dead], [(1000000, ⟨false, [.own (.sl 1 ((mix (mkStrS k xs) xs i).map dStr))]⟩)]⟩) (xs.length) ?_ fun μ st hI => ?_
  · refine ⟨0, by simp, by simp, ?_⟩
    exact Can.to (by repeat first | exact LessT.nil | refine LessT.drop ?_ | refine LessT.keep ?_ | refine LessT.eq (by simp [cntFold]) ?_) (.cons rfl (by simp [mix_zero]) .nil)
  · obtain ⟨i, hyp, rfl, hcan⟩ := hI
    refine TC.can hcan ?_
    clear hcan
    refine TC.seq ?_
    refine TC.seq ?_
    -- region 2
    refine TC.region ?_
    refine TL.valE rfl (Val.move 1 rfl rfl) (by simp only [St.put, List.set_cons_succ, List.set_cons_zero]; rfl) ?_
    refine TL.valE rfl (Val.move 1 rfl rfl) (by simp only [St.put, List.set_cons_succ, List.set_cons_zero]; rfl) ?_
    refine TL.valE rfl (by first | exact Val.len rfl rfl rfl rfl | exact Val.lenS rfl rfl rfl) (by simp only [St.put, List.set_cons_succ, List.set_cons_zero]; rfl) ?_
    refine TL.valE rfl (Val.lss rfl rfl rfl) (by simp only [St.put, List.set_cons_succ, List.set_cons_zero]; rfl) ?_
    refine TL.nil ?_
    show TC _ _ _ _ _ _
    refine TC.cond rfl (fun hb => ?_) (fun hb => ?_)
    · refine TC.skip ?_
      show TC _ _ _ _ _ _
      refine TC.seq ?_
      refine TC.block ?_
      refine TC.seq ?_
      have hi : i < xs.length := by simpa [mix_len (mkStrS_len k xs)] using hb
      have hlen : xs.length ≤ 2097152 := hmx
      obtain ⟨x, hx⟩ := at_of (xs := xs) (k := i) hi
      have hcs := cntFold_step (c := cntEStr) hx
      have hc1 := cntFold_le cntEStr_nn xs (i + 1)
      have hc0 := cntFold_nn cntEStr_nn (xs.take i)
      have hcd : cntFold cntEStr xs = cntStrS xs := rfl
      have hg : ((mix (mkStrS k xs) xs i).map dStr)[i]? = some (dStr x) := by simp [List.getElem?_map, mix_get (mkStrS_len k xs), hx]
      have hs : ((mix (mkStrS k xs) xs i).map dStr).set i (dStr (mkEStr (k + cntFold cntEStr (xs.take i)) x)) = ((mix (mkStrS k xs) xs (i + 1)).map dStr) := by rw [← mix_set (mkStrS_len k xs) (mkFold_get mkEStr cntEStr k hx), List.map_set]
      have hLl : ((mix (mkStrS k xs) xs i).map dStr).length = xs.length := by simp [mix_len (mkStrS_len k xs)]
      generalize ((mix (mkStrS k xs) xs i).map dStr) = L at *
      simp only [dStr, mkEStr, cntEStr] at hg hs hcs
      generalize hKI : cntFold cntEStr (xs.take i) = m at *
      -- region 4
      refine TC.region ?_
      refine TL.valE rfl (Val.move 1 rfl rfl) (by simp only [St.put, List.set_cons_succ, List.set_cons_zero]; rfl) ?_
      refine TL.valE rfl (Val.move 1 rfl rfl) (by simp only [St.put, List.set_cons_succ, List.set_cons_zero]; rfl) ?_
      refine TL.valE rfl (Val.move 1 rfl rfl) (by simp only [St.put, List.set_cons_succ, List.set_cons_zero]; rfl) ?_
      refine TL.callF (yes_none rfl) rfl rfl rfl rfl rfl rfl ((laws_markText_f (k + m) (by omega) (by omega)).k) (by repeat first | exact .nil | refine Snaps.cons (.ro _) ?_ | refine Snaps.cons (.aggRo rfl) ?_ | refine Snaps.cons (.cptr _) ?_ | refine Snaps.cons (.fn _) ?_ | refine Snaps.cons (.ownRef rfl (by first | assumption | exact w_IntS _ | exact w_IntSS _ | exact w_InsS _ | exact w_SlotS _ | exact w_GuestS _)) ?_ | refine Snaps.cons (.aggR (by repeat first | exact .nil | refine SnapCs.cons (.ro _) ?_ | refine SnapCs.cons (.ref rfl (by first | assumption | exact w_IntS _ | exact w_IntSS _ | exact w_InsS _ | exact w_SlotS _ | exact w_GuestS _)) ?_)) ?_) rfl (by simp only [St.put, List.set_cons_succ, List.set_cons_zero]; rfl) ?_
      refine TL.valE rfl (by exact Val.index rfl rfl rfl rfl rfl rfl (by omega) (by simp [hLl]; omega)) (by simp only [St.put, List.set_cons_succ, List.set_cons_zero]; rfl) ?_
      refine TL.opK rfl fun K hK => ?_
      refine OpT.store (z := 1) rfl rfl rfl rfl (by simp [St.store1, St.storeAll, St.cellAt, St.isMem, St.root, St.wrote, St.kill, St.setRoot, TS.kill, TV.kill, C.kill, Rt.kill, hitR, hitP, shapeOf, setRow, setAt, rowAt, D.row, D.reRow, List.isPrefixOf, St.nest, St.kill, St.setRoot, St.root, List.getElem?_set_self', List.set_set, hg]; rfl) rfl (by simp [St.store1, St.storeAll, St.cellAt, St.isMem, St.root, St.wrote, St.kill, St.setRoot, TS.kill, TV.kill, C.kill, Rt.kill, hitR, hitP, shapeOf, setRow, setAt, rowAt, D.row, D.reRow, List.isPrefixOf, St.nest, St.kill, St.setRoot, St.root, List.getElem?_set_self', List.set_set, hg]; rfl) ?_
      simp only [St.fresh, St.kill, St.setRoot, St.put, St.renew, TS.kill, TV.kill, C.kill, Rt.kill, boxC, List.map_cons, List.map_nil, List.filter_cons, List.filter_nil, List.set_cons_succ, List.set_cons_zero, List.contains_cons, List.contains_nil, Nat.reduceBEq, Nat.reduceBNe, St.wrote, hitR, hitP, shapeOf, List.isPrefixOf, List.append_eq, Bool.and_true, Bool.true_and, Bool.and_false, Bool.false_and, List.nil_append, List.cons_append, beq_self_eq_true, bne_self_eq_false, Bool.or_false, Bool.or_true, Bool.not_true, Bool.not_false, Bool.false_eq_true, if_true, if_false, reduceIte, resT, valsD, refsD, refD, nextD, nextsD, cellsD, isSl, List.append_nil]
      refine hK _ ?_
      clear hK K
      refine TL.nil ?_
      show TC _ _ _ _ _ _
      -- region 5
      refine TC.region ?_
      refine TL.valE rfl (Val.move 1 rfl rfl) (by simp only [St.put, List.set_cons_succ, List.set_cons_zero]; rfl) ?_
      refine TL.valE rfl (Val.add rfl rfl rfl (by first | omega | (simp only [List.length_map]; omega)) (by first | omega | (simp only [List.length_map]; omega))) (by simp only [St.put, List.set_cons_succ, List.set_cons_zero]; rfl) ?_
      refine TL.valE rfl (Val.assign 1 rfl rfl) (by simp only [St.put, List.set_cons_succ, List.set_cons_zero]; rfl) ?_
      refine TL.nil ?_
      show TC _ _ _ _ _ _
      -- region 3
      refine TC.region ?_
      refine TL.valE rfl (Val.move 1 rfl rfl) (by simp only [St.put, List.set_cons_succ, List.set_cons_zero]; rfl) ?_
      refine TL.valE rfl (Val.add rfl rfl rfl (by first | omega | (simp only [List.length_map]; omega)) (by first | omega | (simp only [List.length_map]; omega))) (by simp only [St.put, List.set_cons_succ, List.set_cons_zero]; rfl) ?_
      refine TL.valE rfl (Val.assign 1 rfl rfl) (by simp only [St.put, List.set_cons_succ, List.set_cons_zero]; rfl) ?_
      refine TL.nil ?_
      first | refine Seq.normal ⟨_, ?_, i + 1, ?_, rfl, ?_⟩ | refine Seq.normal (Q := fun _ _ => True) ⟨_, ?_, i + 1, ?_, rfl, ?_⟩
      · omega
      · omega
      · exact Can.to (by repeat first | exact LessT.nil | refine LessT.drop ?_ | refine LessT.keep ?_ | refine LessT.eq (by first | rfl | (simp; done) | exact congrArg (fun z : Int => (I z : TS)) (by rw [hcs]; omega) | exact congrArg (fun z : Int => (I z : TS)) (by omega)) ?_) (.cons rfl (by simp [hs]) .nil)
    · refine TC.exit ?_
      -- exit 0
      show TC _ _ _ _ _ _
      refine TC.seq ?_
      have hn : i = xs.length := (by simp [mix_len (mkStrS_len k xs)] at hb; omega)
      subst hn
      rw [mix_all (mkStrS_len k xs) (Nat.le_refl _), List.take_length]
      -- region 6
      refine TC.region ?_
      refine TL.valE rfl (Val.move 1 rfl rfl) (by simp only [St.put, List.set_cons_succ, List.set_cons_zero]; rfl) ?_
      refine TL.valE rfl (Val.assign 1 rfl rfl) (by simp only [St.put, List.set_cons_succ, List.set_cons_zero]; rfl) ?_
      refine TL.nil ?_
      show TC _ _ _ _ _ _
      refine TC.ret ?_
      exact ⟨.inr rfl, [_], [_], _, [.sl 1 ((mkStrS k xs).map dStr)], rfl, by decide, rfl, by simp [refV, refC, valC], rfl, rfl, by simp, rfl, ⟨rfl, rfl⟩⟩

-- loop.example/g00975/laws.heldStringS: params ['[]string', 'int'] results ['int'] ('arr', [('app', 'Go.ResultVar.tmp', ['4'])])
theorem laws_heldStringS_f (xs : List ByteArray) (k : Int) (h1 : 0 ≤ k) (h2 : k + cntStrS xs ≤ 1000000000000000) (hmx : SmStrS xs) : Fun Tryd.prog 21 [L 1 ((mkStrS k xs).map dStr), I k] (RV (.int .i64 (k + cntStrS xs))) := by
  refine Fun.of Tryd.func21 rfl (by simp [Tryd.ntmps21]) fun w g0 => ?_
  simp only [Tryd.ntmps21, List.length_cons, List.length_nil, Nat.reduceAdd, Nat.reduceSub, List.replicate, List.cons_append, List.nil_append]
  refine TC.seq ?_
  -- region 0
  refine TC.region ?_
  refine TL.valE rfl (Val.assign 1 rfl rfl) (by simp only [St.put, List.set_cons_succ, List.set_cons_zero]; rfl) ?_
  refine TL.nil ?_
  show TC _ _ _ _ _ _
  refine TC.seq ?_
  refine TC.seq ?_
  -- region 1
  refine TC.region ?_
  refine TL.valE rfl (Val.assign 1 rfl rfl) (by simp only [St.put, List.set_cons_succ, List.set_cons_zero]; rfl) ?_
  refine TL.nil ?_
  show TC _ _ _ _ _ _
  refine TC.block ?_
  refine TC.loop (fun μ st => ∃ i : Nat, (i ≤ xs.length) ∧ μ = xs.length - i ∧ Can st ⟨[L 1 ((mkStrS k xs).map dStr), I (k + cntFold cntEStr (xs.take i)), .one .dead, .one .dead, .one .dead, I i, .one .dead, .one .dead, .one .dead, .one .dead, .one .dead, .one .dead, .one .dead, .one .dead, .one .dead, .one .dead, .one .dead, .one .dead, .one .dead, .one .dead, .one .dead, .one .dead], []⟩) (xs.length) ?_ fun μ st hI => ?_
  · refine ⟨0, by simp, by simp, ?_⟩
    exact Can.to (by repeat first | exact LessT.nil | refine LessT.drop ?_ | refine LessT.keep ?_ | refine LessT.eq (by simp [cntFold]) ?_) .nil
  · obtain ⟨i, hyp, rfl, hcan⟩ := hI
    refine TC.can hcan ?_
    clear hcan
    refine TC.seq ?_
    refine TC.seq ?_
    -- region 2
    refine TC.region ?_
    refine TL.valE rfl (Val.move 1 rfl rfl) (by simp only [St.put, List.set_cons_succ, List.set_cons_zero]; rfl) ?_
    refine TL.valE rfl (Val.move 1 rfl rfl) (by simp only [St.put, List.set_cons_succ, List.set_cons_zero]; rfl) ?_
    refine TL.valE rfl (by first | exact Val.len rfl rfl rfl rfl | exact Val.lenS rfl rfl rfl) (by simp only [St.put, List.set_cons_succ, List.set_cons_zero]; rfl) ?_
    refine TL.valE rfl (Val.lss rfl rfl rfl) (by simp only [St.put, List.set_cons_succ, List.set_cons_zero]; rfl) ?_
    refine TL.nil ?_
    show TC _ _ _ _ _ _
    refine TC.cond rfl (fun hb => ?_) (fun hb => ?_)
    · refine TC.skip ?_
      show TC _ _ _ _ _ _
      refine TC.seq ?_
      refine TC.block ?_
      refine TC.seq ?_
      refine TC.seq ?_
      have hi : i < xs.length := by simpa [mkStrS_len] using hb
      have hlen : xs.length ≤ 2097152 := hmx
      obtain ⟨x, hx⟩ := at_of (xs := xs) (k := i) hi
      have hcs := cntFold_step (c := cntEStr) hx
      have hc1 := cntFold_le cntEStr_nn xs (i + 1)
      have hc0 := cntFold_nn cntEStr_nn (xs.take i)
      have hcd : cntFold cntEStr xs = cntStrS xs := rfl
      have hg : (mkStrS k xs)[i]? = some (mkEStr (k + cntFold cntEStr (xs.take i)) x) := mkFold_get mkEStr cntEStr k hx
      generalize hKI : cntFold cntEStr (xs.take i) = m at *
      simp only [cntEStr] at hcs
      -- region 4
      refine TC.regionQ rfl (by decide +kernel) ?_
      refine TQ.valE rfl (Val.move 1 rfl rfl) (by simp only [St.put, List.set_cons_succ, List.set_cons_zero]; rfl) ?_
      refine TQ.valE rfl (Val.move 1 rfl rfl) (by simp only [St.put, List.set_cons_succ, List.set_cons_zero]; rfl) ?_
      refine TQ.valE rfl (by exact Val.indexC (d := dStr (mkEStr (k + m) x)) rfl rfl rfl rfl rfl (by omega) (by simp [hg])) (by simp only [St.put, List.set_cons_succ, List.set_cons_zero]; rfl) ?_
      refine TQ.valE rfl (by first | exact Val.load rfl rfl rfl rfl rfl | exact Val.loadC rfl rfl rfl) (by simp only [St.put, List.set_cons_succ, List.set_cons_zero, valC]; rfl) ?_
      refine TQ.valE rfl (Val.move 1 rfl rfl) (by simp only [St.put, List.set_cons_succ, List.set_cons_zero]; rfl) ?_
      refine TQ.callF (yes_none rfl) rfl rfl rfl rfl rfl rfl ((laws_markText_f (k + m) (by omega) (by omega)).k) (by repeat first | exact .nil | refine Snaps.cons (.ro _) ?_ | refine Snaps.cons (.aggRo rfl) ?_ | refine Snaps.cons (.cptr _) ?_ | refine Snaps.cons (.fn _) ?_ | refine Snaps.cons (.ownRef rfl (by first | assumption | exact w_IntS _ | exact w_IntSS _ | exact w_InsS _ | exact w_SlotS _ | exact w_GuestS _)) ?_ | refine Snaps.cons (.aggR (by repeat first | exact .nil | refine SnapCs.cons (.ro _) ?_ | refine SnapCs.cons (.ref rfl (by first | assumption | exact w_IntS _ | exact w_IntSS _ | exact w_InsS _ | exact w_SlotS _ | exact w_GuestS _)) ?_)) ?_) rfl (by simp only [St.put, List.set_cons_succ, List.set_cons_zero]; rfl) ?_
      refine TQ.valE rfl (Val.neqS rfl rfl rfl) (by simp only [St.put, List.set_cons_succ, List.set_cons_zero]; rfl) ?_
      refine TQ.nil ?_
      show TC _ _ _ _ _ _
      refine TC.cond rfl (fun hb => ?_) (fun hb => ?_)
      · refine TC.seq ?_
        (exfalso; first | omega | (simp [mkEStr] at hb; done) | (simp [mkEStr] at hb; omega) | (simp at hb; omega))
      · refine TC.skip ?_
        show TC _ _ _ _ _ _
        -- region 6
        refine TC.region ?_
        refine TL.valE rfl (Val.move 1 rfl rfl) (by simp only [St.put, List.set_cons_succ, List.set_cons_zero]; rfl) ?_
        refine TL.valE rfl (Val.add rfl rfl rfl (by first | omega | (simp only [List.length_map]; omega)) (by first | omega | (simp only [List.length_map]; omega))) (by simp only [St.put, List.set_cons_succ, List.set_cons_zero]; rfl) ?_
        refine TL.valE rfl (Val.assign 1 rfl rfl) (by simp only [St.put, List.set_cons_succ, List.set_cons_zero]; rfl) ?_
        refine TL.nil ?_
        show TC _ _ _ _ _ _
        -- region 3
        refine TC.region ?_
        refine TL.valE rfl (Val.move 1 rfl rfl) (by simp only [St.put, List.set_cons_succ, List.set_cons_zero]; rfl) ?_
        refine TL.valE rfl (Val.add rfl rfl rfl (by first | omega | (simp only [List.length_map]; omega)) (by first | omega | (simp only [List.length_map]; omega))) (by simp only [St.put, List.set_cons_succ, List.set_cons_zero]; rfl) ?_
        refine TL.valE rfl (Val.assign 1 rfl rfl) (by simp only [St.put, List.set_cons_succ, List.set_cons_zero]; rfl) ?_
        refine TL.nil ?_
        first | refine Seq.normal ⟨_, ?_, i + 1, ?_, rfl, ?_⟩ | refine Seq.normal (Q := fun _ _ => True) ⟨_, ?_, i + 1, ?_, rfl, ?_⟩
        · omega
        · omega
        · exact Can.to (by repeat first | exact LessT.nil | refine LessT.drop ?_ | refine LessT.keep ?_ | refine LessT.eq (by first | rfl | (simp; done) | exact congrArg (fun z : Int => (I z : TS)) (by rw [hcs]; omega) | exact congrArg (fun z : Int => (I z : TS)) (by omega)) ?_) .nil
    · refine TC.exit ?_
      -- exit 0
      show TC _ _ _ _ _ _
      refine TC.seq ?_
      -- region 7
      refine TC.region ?_
      refine TL.valE rfl (Val.move 1 rfl rfl) (by simp only [St.put, List.set_cons_succ, List.set_cons_zero]; rfl) ?_
      refine TL.valE rfl (Val.assign 1 rfl rfl) (by simp only [St.put, List.set_cons_succ, List.set_cons_zero]; rfl) ?_
      refine TL.nil ?_
      show TC _ _ _ _ _ _
      refine TC.ret ?_
      exact ⟨.inr rfl, [_], [_], _, rfl, by decide, rfl, by simp [refV, refC, valC], rfl, resV (by have hn : i = xs.length := (by simp [mkStrS_len] at hb; omega); subst hn; rw [List.take_length]; rfl)⟩
end Go.Proofs.YtdlpmcjpbcbbjaaDoor.T

