/- Numerals read and lines parted into words: what both sides compute, in plain Lean. No condition. -/
import Derived.Test.YtfbjcdhphhfpfaaGreatDoorWap
import Derived.Lib.AtoiAll
import Derived.Lib.Atoi
import Derived.Lib.AtoiTie
namespace Go.Proofs.YtfbjcdhphhfpfaaGreatDoor.T
open Go
set_option linter.unusedVariables false
set_option linter.unusedSimpArgs false

theorem ba_beq (a b : ByteArray) : (a.toList == b.toList) = decide (a = b) := by
  rw [Bool.eq_iff_iff, beq_iff_eq, decide_eq_true_eq, Go.ByteArray.toList_eq, Go.ByteArray.toList_eq]
  exact ⟨fun h => ByteArray.ext (Array.ext' h), fun h => by rw [h]⟩
theorem decFrom_append : ∀ (l r : List UInt8) (acc : Nat), Lib.decFrom acc (l ++ r) = (Lib.decFrom acc l).bind fun m => Lib.decFrom m r
  | [], r, acc => rfl
  | b :: l, r, acc => by
    simp only [List.cons_append, Lib.decFrom]
    cases Lib.digitVal b with
    | none => rfl
    | some d => exact decFrom_append l r _
theorem digitVal_ten {d : Nat} (h : d < 10) : Lib.digitVal (UInt8.ofNat (48 + d)) = some d := by
  have : (UInt8.ofNat (48 + d)).toNat = 48 + d := by rw [UInt8.toNat_ofNat']; omega
  unfold Lib.digitVal
  rw [this, if_pos (by omega)]
  congr 1
  omega
theorem decFrom_digits : ∀ (n : Nat), Lib.decFrom 0 (Lib.decDigits n) = some n := fun n => by
  induction n using Nat.strongRecOn with
  | ind n ih =>
    by_cases h : n < 10
    · rw [Lib.decDigits_one h]
      simp only [Lib.decFrom, digitVal_ten h]
      congr 1
      omega
    · rw [Lib.decDigits, dif_neg h, decFrom_append, ih (n / 10) (by omega)]
      have : n % 10 < 10 := Nat.mod_lt _ (by omega)
      simp only [Option.bind_some, Lib.decFrom, digitVal_ten this]
      congr 1
      omega
theorem decDigits_ne (n : Nat) : Lib.decDigits n ≠ [] := by
  intro h
  have := Lib.decDigits_length n
  rw [h] at this
  have := Lib.nDigits_pos n
  simp at *
  omega
theorem decNat_digits (n : Nat) : Lib.decNat (Lib.decDigits n) = some n := by
  unfold Lib.decNat
  rw [if_neg (by simp [decDigits_ne])]
  exact decFrom_digits n
theorem dec_nat (n : Nat) : (dec (n : Int)).data.toList = Lib.decDigits n := by
  unfold dec str Lib.itoa
  rw [if_neg (by omega)]
  simp
/-- The numeral's number: what both sides read. -/
def readDec (s : ByteArray) : Option Nat := match Lib.decNat s.data.toList with
  | some n => if n ≤ 1000000000 ∧ dec (n : Int) = s then some n else none
  | none => none
theorem readDec_dec {n : Nat} (h : n ≤ 1000000000) : readDec (dec (n : Int)) = some n := by
  unfold readDec
  rw [dec_nat, decNat_digits]
  simp [h]
theorem readDec_some {s : ByteArray} {n : Nat} (h : readDec s = some n) : n ≤ 1000000000 ∧ dec (n : Int) = s := by
  unfold readDec at h
  split at h
  · split at h
    · rename_i h1
      cases h
      exact h1
    · cases h
  · cases h
theorem readDec_none {s : ByteArray} (h : ∀ n : Nat, n ≤ 1000000000 → dec (n : Int) ≠ s) : readDec s = none := by
  cases h1 : readDec s with
  | none => rfl
  | some n => exact absurd (readDec_some h1).2 (h n (readDec_some h1).1)
theorem dec_small {n : Nat} (h : n ≤ 1000000000) : 1 ≤ (dec (n : Int)).size ∧ (dec (n : Int)).size ≤ 10 := by
  have h1 : (dec (n : Int)).size = Lib.nDigits n := by
    rw [← Lib.decDigits_length, ← dec_nat, Array.length_toList]
    rfl
  have := Lib.nDigits_pos n
  have := nDigits_le 9 n (by omega)
  omega
theorem atoiAll_dec {n : Nat} (h : n ≤ 1000000000) : Lib.atoiAll (dec (n : Int)).data.toList = .ok (n : Int) := by
  have hs := dec_small h
  have hl : (dec (n : Int)).data.toList.length ≤ 18 := by rw [Array.length_toList]; exact Nat.le_trans hs.2 (by omega)
  rw [Lib.atoiAll_short _ hl, dec_nat]
  have h1 := decNat_digits n
  have h2 : Lib.atoi (Lib.decDigits n) = some (n : Int) := by
    have h3 : ∀ (k : Nat) (b : UInt8), (Lib.decDigits n)[k]? = some b → ∃ d, Lib.digitVal b = some d := Lib.digit_of_decFrom _ _ _ (decFrom_digits n)
    cases e : Lib.decDigits n with
    | nil => exact absurd e (decDigits_ne n)
    | cons b r =>
      rw [e] at h1 h3
      obtain ⟨d, hd⟩ := h3 0 b rfl
      unfold Lib.digitVal at hd
      split at hd
      · rename_i hb
        have g1 : (b == 45) = false := by rw [beq_eq_false_iff_ne]; rintro rfl; revert hb; decide
        have g2 : (b == 43) = false := by rw [beq_eq_false_iff_ne]; rintro rfl; revert hb; decide
        simp only [Lib.atoi, g1, g2, Bool.false_eq_true, if_false, h1]
        rfl
      · cases hd
  rw [h2]
  rfl
/- LINES PARTED -/
def blank (s : ByteArray) (i : Nat) : Bool := decide (s.size ≤ i) || decide (s.data.toList[i]? = some 32)
/-- The words up to a place, and where the next one begins. -/
def wordsTo (s : ByteArray) : Nat → List ByteArray × Nat
  | 0 => ([], 0)
  | i + 1 => if blank s i then (if (wordsTo s i).2 < i then (wordsTo s i).1 ++ [s.extract (wordsTo s i).2 i] else (wordsTo s i).1, i + 1) else wordsTo s i
def okB (c : UInt8) : Bool := inR c.toNat 32 126
def parts (s : ByteArray) : Option (List ByteArray) :=
  if 600 < s.size then none else if s.data.toList.all okB then (if 12 < (wordsTo s (s.size + 1)).1.length then none else some (wordsTo s (s.size + 1)).1) else none
theorem wordsTo_le (s : ByteArray) : ∀ i, (wordsTo s i).2 ≤ i ∧ (wordsTo s i).1.length ≤ i
  | 0 => ⟨Nat.le_refl _, Nat.le_refl _⟩
  | i + 1 => by
    have := wordsTo_le s i
    unfold wordsTo
    split
    · refine ⟨Nat.le_refl _, ?_⟩
      simp only
      split
      · simp only [List.length_append, List.length_cons, List.length_nil]; omega
      · omega
    · omega
/-- A word: not empty, without a space. -/
def Word (w : ByteArray) : Prop := w.size ≠ 0 ∧ ∀ c ∈ w.data.toList, c ≠ 32
theorem wordsTo_black (s : ByteArray) : ∀ i j, (wordsTo s i).2 ≤ j → j < i → blank s j = false
  | 0, j, _, h => by omega
  | i + 1, j, h, hj => by
    unfold wordsTo at h
    split at h
    · simp only at h; omega
    · rename_i hb
      by_cases e : j = i
      · subst e; simpa using hb
      · exact wordsTo_black s i j h (by omega)
theorem wordsTo_word (s : ByteArray) : ∀ i, ∀ w ∈ (wordsTo s i).1, Word w
  | 0, w, h => by simp [wordsTo] at h
  | i + 1, w, h => by
    unfold wordsTo at h
    split at h
    · simp only at h
      split at h
      · rename_i hb hlt
        rcases List.mem_append.1 h with h | h
        · exact wordsTo_word s i w h
        · rw [List.mem_singleton] at h
          subst h
          have hk := wordsTo_black s i
          generalize (wordsTo s i).2 = b at *
          have h1 := hk (i - 1) (by omega) (by omega)
          simp only [blank, Bool.or_eq_false_iff, decide_eq_false_iff_not] at h1
          refine ⟨by rw [ByteArray.size_extract]; omega, fun c hc => ?_⟩
          rw [ByteArray.data_extract, Array.toList_extract, List.extract_eq_take_drop] at hc
          obtain ⟨j, hj, e⟩ := List.getElem_of_mem hc
          rw [List.length_take, List.length_drop] at hj
          rw [List.getElem_take, List.getElem_drop] at e
          have h2 := hk (b + j) (by omega) (by omega)
          simp only [blank, Bool.or_eq_false_iff, decide_eq_false_iff_not] at h2
          intro e2
          refine h2.2 ?_
          rw [List.getElem?_eq_getElem (by omega), e, e2]
      · exact wordsTo_word s i w h
    · exact wordsTo_word s i w h
theorem parts_word {s : ByteArray} {ws : List ByteArray} (h : parts s = some ws) : ws.length ≤ 12 ∧ ∀ w ∈ ws, Word w := by
  unfold parts at h
  repeat' split at h
  all_goals try cases h
  exact ⟨by omega, wordsTo_word s _⟩
theorem words_stay {s : ByteArray} {i b : Nat} {ws : List ByteArray} (h : wordsTo s i = (ws, b)) (hb : blank s i = false) : wordsTo s (i + 1) = (ws, b) := by
  rw [wordsTo, hb]
  exact h
theorem words_add {s : ByteArray} {i b : Nat} {ws : List ByteArray} (h : wordsTo s i = (ws, b)) (hb : blank s i = true) (hl : b < i) : wordsTo s (i + 1) = (ws ++ [s.extract b i], i + 1) := by
  rw [wordsTo, hb, h]
  simp [hl]
theorem words_skip {s : ByteArray} {i b : Nat} {ws : List ByteArray} (h : wordsTo s i = (ws, b)) (hb : blank s i = true) (hl : ¬ b < i) : wordsTo s (i + 1) = (ws, i + 1) := by
  rw [wordsTo, hb, h]
  simp [hl]
theorem words_le {s : ByteArray} {i b : Nat} {ws : List ByteArray} (h : wordsTo s i = (ws, b)) : b ≤ i ∧ ws.length ≤ i := by
  have := wordsTo_le s i
  rw [h] at this
  exact this
theorem blank_is {s : ByteArray} {i : Nat} {c : UInt8} (hc : i < s.size → s[((i : Nat) : Int).toNat]? = some c ∧ s.data.toList[i]? = some c) : blank s i = (decide (s.size ≤ i) || decide ((c.toNat : Int) = 32)) := by
  unfold blank
  by_cases h : s.size ≤ i
  · simp [h]
  · rw [(hc (by omega)).2]
    congr 1
    rw [Bool.eq_iff_iff, decide_eq_true_eq, decide_eq_true_eq, Option.some.injEq]
    constructor
    · rintro rfl; rfl
    · intro e; exact UInt8.toNat_inj.1 (by rw [show (32 : UInt8).toNat = 32 from rfl]; omega)
theorem byte_at (s : ByteArray) (i : Nat) : ∃ c, i < s.size → s[((i : Nat) : Int).toNat]? = some c ∧ s.data.toList[i]? = some c := by
  by_cases h : i < s.size
  · have h1 : i < s.data.toList.length := by rw [Array.length_toList]; exact h
    refine ⟨s.data.toList[i], fun _ => ⟨?_, List.getElem?_eq_getElem h1⟩⟩
    show s[i]? = _
    rw [getElem?_pos s i h]
    simp only [Option.some.injEq]
    rfl
  · exact ⟨0, fun h1 => absurd h1 h⟩
def okTo (s : ByteArray) (i : Nat) : Bool := (s.data.toList.take i).all okB
theorem okTo_step {s : ByteArray} {i : Nat} {c : UInt8} (h : okTo s i = true) (hc : i < s.size → s[((i : Nat) : Int).toNat]? = some c ∧ s.data.toList[i]? = some c) (hk : i < s.size → 32 ≤ (c.toNat : Int) ∧ (c.toNat : Int) ≤ 126) : okTo s (i + 1) = true := by
  unfold okTo at *
  rw [List.take_add_one, List.all_append, h]
  by_cases hl : i < s.size
  · rw [(hc hl).2]
    have := hk hl
    simp [okB, inR]
    omega
  · rw [List.getElem?_eq_none (by rw [Array.length_toList]; exact Nat.not_lt.1 hl)]
    rfl
theorem parts_long {s : ByteArray} (h : 600 < s.size) : parts s = none := by simp [parts, h]
theorem parts_bad {s : ByteArray} {i : Nat} {c : UInt8} (hc : i < s.size → s[((i : Nat) : Int).toNat]? = some c ∧ s.data.toList[i]? = some c) (hl : i < s.size) (hk : ¬ (32 ≤ (c.toNat : Int) ∧ (c.toNat : Int) ≤ 126)) : parts s = none := by
  have : s.data.toList.all okB = false := all_off (hc hl).2 (by simp only [okB, inR, Bool.and_eq_false_iff, decide_eq_false_iff_not]; omega)
  unfold parts
  rw [this]
  simp
theorem parts_end {s : ByteArray} {b i : Nat} {ws : List ByteArray} (h0 : s.size ≤ 600) (hi : i = s.size + 1) (h : wordsTo s i = (ws, b)) (hk : okTo s i = true) : parts s = if 12 < ws.length then none else some ws := by
  subst hi
  have : s.data.toList.all okB = true := by
    unfold okTo at hk
    rwa [List.take_of_length_le (by rw [Array.length_toList]; exact Nat.le_succ _)] at hk
  unfold parts
  rw [if_neg (by omega), if_pos this, h]
/-- What PartsOf gives: the words, or none and false. -/
abbrev RParts (q : Option (List ByteArray)) : Res → Prop := RG [.c (.sl 1 ((q.getD []).map fun w => .v (.string w))), .c (.v (.bool q.isSome))]
/-- What ReadDecimal gives: the number, or 0 and false. -/
abbrev RDec (q : Option Nat) : Res → Prop := RG [.c (.v (.int .i64 (q.getD 0 : Nat))), .c (.v (.bool q.isSome))]
theorem readDec_long {s : ByteArray} (h : 10 < s.size) : readDec s = none := readDec_none fun n hn e => by
  have := dec_small hn
  rw [e] at this
  omega
theorem readDec_bad {s : ByteArray} {i : Nat} {c : UInt8} (hc : s.data.toList[i]? = some c) (h : ¬ (48 ≤ (c.toNat : Int) ∧ (c.toNat : Int) ≤ 57)) : readDec s = none := readDec_none fun n hn e => by
  subst e
  rw [dec_nat] at hc
  obtain ⟨d, hd⟩ := Lib.digit_of_decFrom _ _ _ (decFrom_digits n) i c hc
  unfold Lib.digitVal at hd
  split at hd
  · omega
  · cases hd
theorem readDec_fin {s : ByteArray} {n : Nat} (h : Lib.decFrom 0 s.data.toList = some n) : readDec s = if n ≤ 1000000000 ∧ dec (n : Int) = s then some n else none := by
  split
  · rename_i h1
    rw [← h1.2]
    exact readDec_dec h1.1
  · rename_i h1
    refine readDec_none fun m hm e => h1 ?_
    subst e
    rw [dec_nat, decFrom_digits] at h
    cases h
    exact ⟨hm, rfl⟩
theorem wordsTo_size (s : ByteArray) : ∀ i, ∀ w ∈ (wordsTo s i).1, w.size ≤ s.size
  | 0, w, h => by simp [wordsTo] at h
  | i + 1, w, h => by
    unfold wordsTo at h
    split at h
    · simp only at h
      split at h
      · rcases List.mem_append.1 h with h | h
        · exact wordsTo_size s i w h
        · rw [List.mem_singleton] at h
          subst h
          rw [ByteArray.size_extract]
          omega
      · exact wordsTo_size s i w h
    · exact wordsTo_size s i w h
theorem parts_size {s : ByteArray} {ws : List ByteArray} (h : parts s = some ws) : ∀ w ∈ ws, w.size ≤ 600 := by
  unfold parts at h
  repeat' split at h
  all_goals try cases h
  intro w hw
  have := wordsTo_size s _ w hw
  omega
end Go.Proofs.YtfbjcdhphhfpfaaGreatDoor.T

