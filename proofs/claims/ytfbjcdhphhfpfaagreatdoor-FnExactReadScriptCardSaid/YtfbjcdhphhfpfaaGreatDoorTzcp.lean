/- strconv: Itoa by the shelf's contract; decimal numerals. Condition of the contract: the table of powers of ten lies as the row lists it. -/
import Derived.Test.YtfbjcdhphhfpfaaGreatDoorLap
import Derived.Test.YtfbjcdhphhfpfaaGreatDoorT3p
import Derived.Shelf.Strconv.Itoa3
import Derived.Lib.LaidTab
namespace Go.Proofs.YtfbjcdhphhfpfaaGreatDoor.T
open Go Go.Sort
set_option linter.unusedVariables false
set_option linter.unusedSimpArgs false

def str (l : List UInt8) : ByteArray := ⟨l.toArray⟩
theorem str_app (a b : List UInt8) : str (a ++ b) = str a ++ str b := by
  apply ByteArray.ext
  simp [str]
theorem str_size (a : List UInt8) : (str a).size = a.length := by simp [str, ByteArray.size]

/-- The decimal numeral of an int. -/
def dec (n : Int) : ByteArray := str (Lib.itoa n)
/-- The digits that are still to come; none of 0. -/
def pdec (m : Nat) : List UInt8 := if m = 0 then [] else Lib.decDigits m
theorem pdec_step {m : Nat} (h : m ≠ 0) : pdec m = pdec (m / 10) ++ [UInt8.ofNat (48 + m % 10)] := by
  unfold pdec
  rw [if_neg h]
  by_cases h1 : m < 10
  · rw [if_pos (by omega), Lib.decDigits_one h1, Nat.mod_eq_of_lt h1]
    rfl
  · rw [if_neg (by omega), Lib.decDigits, dif_neg h1]
theorem nDigits_le : ∀ (k u : Nat), u < 10 ^ (k + 1) → Lib.nDigits u ≤ k + 1
  | 0, u, h => by rw [Lib.nDigits_small (by simpa using h)]; omega
  | k + 1, u, h => by
    by_cases h1 : u < 10
    · rw [Lib.nDigits_small h1]; omega
    · rw [Lib.nDigits_big h1]
      have := nDigits_le k (u / 10) (by rw [Nat.pow_succ] at h; omega)
      omega
theorem dec_size {n : Int} (h0 : -9223372036854775808 ≤ n) (h1 : n ≤ 9223372036854775807) : (dec n).size ≤ 21 := by
  unfold dec
  rw [str_size]
  unfold Lib.itoa
  split
  · have := nDigits_le 19 n.natAbs (by omega)
    rw [← Lib.decDigits_length] at this
    simp only [List.length_cons]
    omega
  · have := nDigits_le 19 n.toNat (by omega)
    rw [← Lib.decDigits_length] at this
    omega
theorem strOfNums_one {n : Int} {k : Nat} (h : n = k) (hk : k < 256) : strOfNums [n] = str [UInt8.ofNat k] := by
  subst h
  apply ByteArray.ext
  simp [strOfNums, str]

/-- The table of powers of ten. -/
def Tab (w : World) : Prop := Lib.TabIs Tryz.prog w "internal/strconv.uint64pow10" .u64 Lib.pow10Tab
theorem Tab.keep (w w' : World) (h : Tab w) (hs : w.heap.size ≤ w'.heap.size) (hb : ∀ b, b < w.heap.size → w'.heap[b]? = w.heap[b]?) : Tab w' := by
  unfold Tab Lib.TabIs World.var? at *
  cases hg : Tryz.prog.globalNamed "internal/strconv.uint64pow10" with
  | none => rw [hg] at h; cases h
  | some g =>
    rw [hg] at h
    simp only [Option.bind_some] at h ⊢
    have : g < w.heap.size := by
      rcases Nat.lt_or_ge g w.heap.size with h1 | h1
      · exact h1
      · rw [Array.getElem?_eq_none h1] at h; cases h
    rw [hb g this]
    exact h

/-- A contract of the shelf's: plain arguments, a plain result; new memory is nobody's. -/
theorem FunAt.shelf {P : Program} {f : FuncId} {vs : List Value} {x : Value} {w : World} (hp : plain x = true)
    (h : Calls P f vs.toArray w fun e w' => e = .returned x ∧ ∃ k os, w' = grow (w.drewN k) os) : FunAt P f (vs.map V) (RV x) w := by
  intro g args k hg hsz hargs
  have ha : args = vs.toArray := by
    apply Array.ext
    · simpa using hsz
    · intro i h1 h2
      have h3 : i < vs.length := by simpa using h2
      have := V_inv (hargs i (V vs[i]) args[i] (by simp [h3]) (Array.getElem?_eq_getElem h1))
      simpa using this
  subst ha
  refine h.mono fun e w' ⟨he, q, os, hw⟩ => ?_
  subst he
  subst hw
  refine ⟨x, ⟨[], fun _ => V x⟩, { g with o := allRo (grow (w.drewN q) os) }, rfl, rfl, ⟨rfl, rfl, rfl, ?_, fun b hb => ?_, fun b _ hb => .inl ?_, fun b hb => ?_, fun q d hq => ?_, V_mk hp⟩⟩
  · show w.heap.size ≤ (w.heap ++ os).size
    simp
  · show (w.heap ++ os)[b]? = w.heap[b]?
    exact Array.getElem?_append_left hb
  · show (if b < (grow (w.drewN q) os).heap.size then Tag.ro else Tag.outer) = .ro
    rw [if_pos hb]
  · have : (if b < (grow (w.drewN q) os).heap.size then Tag.ro else Tag.outer).root? = some k := hb
    split at this <;> cases this
  · simp at hq

theorem itoa_f (n : Int) (h0 : -9223372036854775808 ≤ n) (h1 : n ≤ 9223372036854775807) : FunW Tab Tryz.prog 70 [I n] (RV (.string (dec n))) := fun w hw =>
  FunAt.shelf (vs := [.int .i64 n]) rfl (Any.strconv_Itoa laysItoa n h0 h1 w hw)
end Go.Proofs.YtfbjcdhphhfpfaaGreatDoor.T

