/- Instructions read from a line: what both sides compute, in plain Lean. No condition. -/
import Derived.Test.YtfbjcdhphhfpfaaGreatDoorWcp
import Derived.Test.YtfbjcdhphhfpfaaGreatDoorWkp
namespace Go.Proofs.YtfbjcdhphhfpfaaGreatDoor.T
open Go
set_option linter.unusedVariables false
set_option linter.unusedSimpArgs false

abbrev dStr (x : ByteArray) : D := .v (.string x)
def tailSp : List ByteArray → ByteArray
  | [] => ⟨#[]⟩
  | w :: l => ⟨#[32]⟩ ++ w ++ tailSp l
/-- The words with a space between them. -/
def joinSp : List ByteArray → ByteArray
  | [] => ⟨#[]⟩
  | w :: l => w ++ tailSp l
theorem ba_app_nil (a : ByteArray) : a ++ ⟨#[]⟩ = a := by
  apply ByteArray.ext
  simp
theorem ba_nil_app (a : ByteArray) : (⟨#[]⟩ : ByteArray) ++ a = a := by
  apply ByteArray.ext
  simp
theorem tailSp_snoc (w : ByteArray) : ∀ l, tailSp (l ++ [w]) = tailSp l ++ ⟨#[32]⟩ ++ w
  | [] => by simp [tailSp, ba_app_nil, ba_nil_app]
  | v :: l => by simp only [List.cons_append, tailSp, tailSp_snoc w l, ByteArray.append_assoc]
theorem joinSp_snoc {l : List ByteArray} (w : ByteArray) (h : l ≠ []) : joinSp (l ++ [w]) = joinSp l ++ ⟨#[32]⟩ ++ w := by
  cases l with
  | nil => exact absurd rfl h
  | cons v l => simp only [List.cons_append, joinSp, tailSp_snoc, ByteArray.append_assoc]
theorem joinSp_one (w : ByteArray) : joinSp [w] = w := ba_app_nil w
theorem joinSp_two (a b : ByteArray) : joinSp [a, b] = a ++ ⟨#[32]⟩ ++ b := by simp only [joinSp, tailSp, ba_app_nil, ByteArray.append_assoc]
theorem ba_cancel {a x y : ByteArray} (h : a ++ x = a ++ y) : x = y := by
  have h1 := congrArg (fun s : ByteArray => s.data.toList) h
  simp only [ByteArray.data_append, Array.toList_append] at h1
  have := List.append_cancel_left h1
  apply ByteArray.ext
  exact Array.ext' this
/-- The number of a numeral, 0 of another text. -/
def numOf (b : ByteArray) : Nat := (readDec b).getD 0
theorem numOf_le (b : ByteArray) : numOf b ≤ 1000000000 := by
  unfold numOf
  cases h : readDec b with
  | none => simp
  | some n => exact (readDec_some h).1
theorem numOf_iff (b : ByteArray) : dec (numOf b : Int) = b ↔ (readDec b).isSome = true := by
  unfold numOf
  cases h : readDec b with
  | none =>
    simp only [Option.getD_none, Option.isSome_none, Bool.false_eq_true, iff_false]
    intro e
    have := readDec_dec (n := 0) (by omega)
    rw [e, h] at this
    cases this
  | some n => simp [(readDec_some h).2]
def numAt (ws : List ByteArray) (j : Nat) : Int := match ws[j]? with
  | some w => (numOf w : Int)
  | none => 0
theorem joinSp_step {ws : List ByteArray} {k : Nat} {x : ByteArray} (hx : ws[k]? = some x) : joinSp (ws.take (k + 1)) = (if 0 < k then joinSp (ws.take k) ++ ⟨#[32]⟩ else joinSp (ws.take k)) ++ x := by
  have hk := (List.getElem?_eq_some_iff.1 hx).1
  rw [List.take_add_one, hx]
  simp only [Option.toList_some]
  by_cases h : 0 < k
  · rw [if_pos h, joinSp_snoc]
    intro e
    have : (ws.take k).length = 0 := by rw [e]; rfl
    rw [List.length_take] at this
    omega
  · have : k = 0 := by omega
    subst this
    rw [if_neg h]
    simp only [List.take_zero, List.nil_append]
    rw [joinSp_one]
    exact (ba_nil_app x).symm
theorem joinSp_size {ws : List ByteArray} (h : ∀ w ∈ ws, w.size ≤ 600) : ∀ k : Nat, (joinSp (ws.take k)).size ≤ 601 * k
  | 0 => by rw [List.take_zero]; exact Nat.le_refl _
  | k + 1 => by
    have ih := joinSp_size h k
    rcases Nat.lt_or_ge k ws.length with hk | hk
    · obtain ⟨x, hx⟩ := at_of hk
      have hi := h x (List.mem_of_getElem? hx)
      rw [joinSp_step hx]
      split <;> simp only [ByteArray.size_append, lit_size] <;> simp <;> omega
    · rw [List.take_of_length_le (by omega)] at ih ⊢
      omega
/-- What ReadIns gives: the instruction, or none and false. -/
abbrev RIns (q : Option VIns) : Res → Prop := RG [.a (rIns (q.getD ⟨0, 0⟩)), .c (.v (.bool q.isSome))]
/-- The operation that a word names, 0 if none. -/
def opTo (w : ByteArray) : Nat → Int
  | 0 => 0
  | k + 1 => if opName ((k : Int) + 1) = w then (k : Int) + 1 else opTo w k
theorem opTo_in (w : ByteArray) : ∀ k, 0 ≤ opTo w k ∧ opTo w k ≤ k ∧ (opTo w k ≠ 0 → opName (opTo w k) = w)
  | 0 => ⟨Int.le_refl _, Int.le_refl _, fun h => absurd rfl h⟩
  | k + 1 => by
    have := opTo_in w k
    unfold opTo
    split
    · rename_i h
      exact ⟨by omega, by omega, fun _ => h⟩
    · exact ⟨this.1, by omega, this.2.2⟩
theorem opName_inj : ∀ i : Fin 8, opTo (opName ((i.val : Int) + 1)) 8 = (i.val : Int) + 1 := by decide +kernel
theorem opTo_name {w : ByteArray} {op : Int} (h1 : 1 ≤ op) (h2 : op ≤ 8) (h : opName op = w) : opTo w 8 = op := by
  have := opName_inj ⟨(op - 1).toNat, by omega⟩
  simp only at this
  rw [show (((op - 1).toNat : Nat) : Int) + 1 = op by omega, h] at this
  exact this
def readIns (s : ByteArray) : Option VIns := match parts s with
  | some [a, b] => if (readDec b).isSome ∧ insOk ⟨opTo a 8, numOf b⟩ = true then some ⟨opTo a 8, numOf b⟩ else none
  | _ => none
theorem insOk_op {i : VIns} (h : insOk i = true) : 1 ≤ i.Op ∧ i.Op ≤ 8 := by
  unfold insOk at h
  repeat' split at h
  all_goals first | omega | cases h
theorem insLine_ne {i : VIns} (h : insOk i = true) : insLine i ≠ ⟨#[]⟩ := by
  unfold insLine
  rw [if_pos h]
  intro e
  have := congrArg ByteArray.size e
  simp only [ByteArray.size_append, lit_size, List.size_toArray, List.length_cons, List.length_nil] at this
  omega
theorem insLine_bad {i : VIns} (h : ¬ insOk i = true) : insLine i = ⟨#[]⟩ := if_neg h
/-- The reference's question is the program's. -/
theorem insLine_back {a b : ByteArray} (h : insOk ⟨opTo a 8, numOf b⟩ = true) : insLine ⟨opTo a 8, numOf b⟩ = joinSp [a, b] ↔ (readDec b).isSome = true := by
  have h0 := insOk_op h
  have h1 := (opTo_in a 8).2.2 (by simp only at h0; omega)
  rw [joinSp_two, ← numOf_iff]
  unfold insLine
  rw [if_pos h]
  simp only [h1]
  constructor
  · exact ba_cancel
  · intro e; rw [e]
theorem readIns_none {s : ByteArray} (h : ∀ a b, parts s ≠ some [a, b]) : readIns s = none := by
  unfold readIns
  split
  · rename_i a b e
    exact absurd e (h a b)
  · rfl
theorem readIns_two {s a b : ByteArray} (h : parts s = some [a, b]) : readIns s = if (readDec b).isSome ∧ insOk ⟨opTo a 8, numOf b⟩ = true then some ⟨opTo a 8, numOf b⟩ else none := by
  unfold readIns
  rw [h]
end Go.Proofs.YtfbjcdhphhfpfaaGreatDoor.T

