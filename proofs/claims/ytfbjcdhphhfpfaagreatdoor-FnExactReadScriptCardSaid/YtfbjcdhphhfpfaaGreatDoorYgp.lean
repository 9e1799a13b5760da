/- Scripts read from a text: the reference's ways of reckoning are the program's, in plain Lean. No condition. -/
import Derived.Test.YtfbjcdhphhfpfaaGreatDoorYap
namespace Go.Proofs.YtfbjcdhphhfpfaaGreatDoor.T
open Go
set_option linter.unusedVariables false
set_option linter.unusedSimpArgs false
set_option maxRecDepth 100000

def nlAt (s : ByteArray) (i : Nat) : Bool := decide (s.size ≤ i) || decide (s.data.toList[i]? = some 10)
/-- The lines up to a place, and where the next one begins. -/
def cutTo (s : ByteArray) : Nat → List ByteArray × Nat
  | 0 => ([], 0)
  | i + 1 => if nlAt s i then ((cutTo s i).1 ++ [s.extract (cutTo s i).2 i], i + 1) else cutTo s i
theorem cut_hit {s : ByteArray} {i b : Nat} {W : List ByteArray} (h : cutTo s i = (W, b)) (hn : nlAt s i = true) : cutTo s (i + 1) = (W ++ [s.extract b i], i + 1) := by rw [cutTo, hn, h]; rfl
theorem cut_stay {s : ByteArray} {i b : Nat} {W : List ByteArray} (h : cutTo s i = (W, b)) (hn : nlAt s i = false) : cutTo s (i + 1) = (W, b) := by rw [cutTo, hn]; exact h
theorem cutTo_le (s : ByteArray) : ∀ i, (cutTo s i).2 ≤ i ∧ (cutTo s i).1.length ≤ i
  | 0 => ⟨Nat.le_refl _, Nat.le_refl _⟩
  | i + 1 => by
    have := cutTo_le s i
    unfold cutTo
    split
    · exact ⟨Nat.le_refl _, by simp; omega⟩
    · exact ⟨by omega, by omega⟩
theorem cutTo_inv (s : ByteArray) : ∀ i, i ≤ s.size → (∀ c ∈ (s.data.toList.drop (cutTo s i).2).take (i - (cutTo s i).2), c ≠ 10) ∧ cutL s.data.toList = (cutTo s i).1.map (fun b => b.data.toList) ++ cutL (s.data.toList.drop (cutTo s i).2)
  | 0, _ => ⟨by simp [cutTo], by simp [cutTo]⟩
  | i + 1, hi => by
    have ih := cutTo_inv s i (by omega)
    have hle := (cutTo_le s i).1
    have hlen : s.data.toList.length = s.size := by rw [Array.length_toList]; rfl
    have hil : i < s.data.toList.length := by omega
    generalize hb : (cutTo s i).2 = b at *
    generalize hW : (cutTo s i).1 = W at *
    have hp : cutTo s i = (W, b) := by rw [← hb, ← hW]
    cases hn : nlAt s i with
    | true =>
      rw [cut_hit hp hn]
      have hc : s.data.toList[i]? = some 10 := by
        simp only [nlAt, Bool.or_eq_true, decide_eq_true_eq] at hn
        rcases hn with hn | hn
        · omega
        · exact hn
      have hs : s.data.toList.drop b = (s.data.toList.drop b).take (i - b) ++ 10 :: s.data.toList.drop (i + 1) := by
        have h1 := (List.take_append_drop (i - b) (s.data.toList.drop b)).symm
        rw [List.drop_drop, show b + (i - b) = i by omega, List.drop_eq_getElem_cons hil] at h1
        rw [List.getElem?_eq_getElem hil] at hc
        rw [Option.some.inj hc] at h1
        exact h1
      refine ⟨by simp, ?_⟩
      rw [ih.2]
      conv => lhs; rw [hs, cutL_app _ _ ih.1]
      simp only [List.map_append, List.map_cons, List.map_nil, List.append_assoc, List.singleton_append]
      congr 2
      rw [ByteArray.data_extract, Array.toList_extract, List.extract_eq_take_drop]
    | false =>
      rw [cut_stay hp hn]
      refine ⟨fun c hc => ?_, ih.2⟩
      rw [show i + 1 - b = (i - b) + 1 by omega, List.take_add_one] at hc
      rcases List.mem_append.1 hc with hc | hc
      · exact ih.1 c hc
      · intro e
        rw [List.getElem?_drop, show b + (i - b) = i by omega, List.getElem?_eq_getElem hil] at hc
        simp only [Option.toList_some, List.mem_singleton] at hc
        simp only [nlAt, Bool.or_eq_false_iff, decide_eq_false_iff_not] at hn
        exact hn.2 (by rw [List.getElem?_eq_getElem hil, ← hc, e])
theorem cutTo_all (s : ByteArray) : (cutTo s (s.size + 1)).1 = linesOf s := by
  have h := cutTo_inv s s.size (Nat.le_refl _)
  have hle := (cutTo_le s s.size).1
  have hlen : s.data.toList.length = s.size := by rw [Array.length_toList]; rfl
  have hn : nlAt s s.size = true := by simp [nlAt]
  generalize hb : (cutTo s s.size).2 = b at *
  generalize hW : (cutTo s s.size).1 = W at *
  have hp : cutTo s s.size = (W, b) := by rw [← hb, ← hW]
  rw [cut_hit hp hn]
  unfold linesOf
  rw [h.2, cutL_last (s.data.toList.drop b) (fun c hc => h.1 c (by rw [List.take_of_length_le (by rw [List.length_drop]; omega)]; exact hc)), List.map_append, List.map_map]
  have h5 : W.map ((fun l : List UInt8 => (⟨l.toArray⟩ : ByteArray)) ∘ fun b => b.data.toList) = W.map id := List.map_congr_left fun x _ => rfl
  rw [h5, List.map_id]
  refine congrArg (fun x => W ++ x) ?_
  simp only [List.map_cons, List.map_nil, List.cons.injEq, and_true]
  apply ByteArray.ext
  apply Array.ext'
  rw [ByteArray.data_extract, Array.toList_extract, List.extract_eq_take_drop, List.take_of_length_le (by rw [List.length_drop]; omega)]
theorem nlAt_is {s : ByteArray} {i : Nat} {c : UInt8} (hc : i < s.size → s[((i : Nat) : Int).toNat]? = some c ∧ s.data.toList[i]? = some c) : nlAt s i = (decide (s.size ≤ i) || decide ((c.toNat : Int) = 10)) := by
  unfold nlAt
  by_cases h : s.size ≤ i
  · simp [h]
  · rw [(hc (by omega)).2]
    congr 1
    rw [Bool.eq_iff_iff, decide_eq_true_eq, decide_eq_true_eq, Option.some.injEq]
    constructor
    · rintro rfl; rfl
    · intro e; exact UInt8.toNat_inj.1 (by rw [show (10 : UInt8).toNat = 10 from rfl]; omega)

/-- A line that is no action: the reference's l38Begin. -/
def begins (s : VScript) (line : ByteArray) (ws : List ByteArray) : VScript × Bool :=
  if ws = [wMon] then (⟨s.All ++ [[]], s.Acts⟩, decide (s.All.length < 3)) else
  match s.All[s.All.length - 1]? with
  | none => (s, false)
  | some g =>
    if ws = [wGst] then (⟨s.All.set (s.All.length - 1) (g ++ [[]]), s.Acts⟩, decide (g.length < 2)) else
    match readIns line, g[g.length - 1]? with
    | some i, some p => if p.length < 12 then (⟨s.All.set (s.All.length - 1) (g.set (g.length - 1) (p ++ [i])), s.Acts⟩, true) else (s, false)
    | _, _ => (s, false)
theorem begins_mon {s : VScript} {l : ByteArray} {ws : List ByteArray} (h2 : ws = [wMon]) : begins s l ws = (⟨s.All ++ [[]], s.Acts⟩, decide (s.All.length < 3)) := if_pos h2
theorem begins_none {s : VScript} {l : ByteArray} {ws : List ByteArray} (h2 : ws ≠ [wMon]) (h3 : s.All = []) : begins s l ws = (s, false) := by
  unfold begins
  rw [if_neg h2, show s.All[s.All.length - 1]? = none by rw [h3]; rfl]
theorem begins_gst {s : VScript} {l : ByteArray} {ws : List ByteArray} {m : Nat} {g : List (List VIns)} (h2 : ws ≠ [wMon]) (h3 : s.All.length = m + 1) (h4 : s.All[m]? = some g) (h5 : ws = [wGst]) :
    begins s l ws = (⟨s.All.set m (g ++ [[]]), s.Acts⟩, decide (g.length < 2)) := by
  unfold begins
  rw [if_neg h2, show s.All.length - 1 = m by omega, h4]
  exact if_pos h5
theorem begins_bad {s : VScript} {l : ByteArray} {ws : List ByteArray} {m : Nat} {g : List (List VIns)} (h2 : ws ≠ [wMon]) (h3 : s.All.length = m + 1) (h4 : s.All[m]? = some g) (h5 : ws ≠ [wGst])
    (h6 : readIns l = none ∨ g = []) : begins s l ws = (s, false) := by
  unfold begins
  rw [if_neg h2, show s.All.length - 1 = m by omega, h4]
  refine (if_neg h5).trans ?_
  rcases h6 with h6 | h6
  · rw [h6]
  · subst h6
    cases readIns l <;> rfl
theorem begins_full {s : VScript} {l : ByteArray} {ws : List ByteArray} {m j : Nat} {g : List (List VIns)} {p : List VIns} (h2 : ws ≠ [wMon]) (h3 : s.All.length = m + 1) (h4 : s.All[m]? = some g) (h5 : ws ≠ [wGst])
    (h7 : g.length = j + 1) (h8 : g[j]? = some p) (h9 : ¬ p.length < 12) : begins s l ws = (s, false) := by
  unfold begins
  rw [if_neg h2, show s.All.length - 1 = m by omega, h4]
  refine (if_neg h5).trans ?_
  rw [show g.length - 1 = j by omega, h8]
  cases readIns l with
  | none => rfl
  | some i => exact if_neg h9
theorem begins_ins {s : VScript} {l : ByteArray} {ws : List ByteArray} {m j : Nat} {g : List (List VIns)} {p : List VIns} {i : VIns} (h2 : ws ≠ [wMon]) (h3 : s.All.length = m + 1) (h4 : s.All[m]? = some g) (h5 : ws ≠ [wGst])
    (h6 : readIns l = some i) (h7 : g.length = j + 1) (h8 : g[j]? = some p) (h9 : p.length < 12) : begins s l ws = (⟨s.All.set m (g.set j (p ++ [i])), s.Acts⟩, true) := by
  unfold begins
  rw [if_neg h2, show s.All.length - 1 = m by omega, h4]
  refine (if_neg h5).trans ?_
  rw [h6, show g.length - 1 = j by omega, h8]
  exact if_pos h9
/-- Where no action was read, the reference begins as the program takes. -/
theorem begins_accept {s : VScript} {l : ByteArray} {ws : List ByteArray} (h : readAct l = none) (ha : s.Acts = []) : (begins s l ws).2 = (accept s l ws).2 ∧ ((begins s l ws).2 = true → (begins s l ws).1 = (accept s l ws).1) := by
  by_cases h2 : ws = [wMon]
  · rw [begins_mon h2, accept_mon h ha h2]
    exact ⟨rfl, fun _ => rfl⟩
  rcases List.eq_nil_or_concat s.All with h3 | ⟨A, g, h3⟩
  · rw [begins_none h2 h3, accept_none h ha h2 h3]
    exact ⟨rfl, fun _ => rfl⟩
  have hl : s.All.length = A.length + 1 := by rw [h3]; simp
  have hg : s.All[A.length]? = some g := by rw [h3]; simp
  by_cases h5 : ws = [wGst]
  · rw [begins_gst h2 hl hg h5, accept_gst h ha h2 hl hg h5]
    exact ⟨rfl, fun _ => rfl⟩
  cases hi : readIns l with
  | none =>
    rw [begins_bad h2 hl hg h5 (.inl hi), accept_bad h ha h2 hl hg h5 (.inl hi)]
    exact ⟨rfl, fun _ => rfl⟩
  | some i =>
    rcases List.eq_nil_or_concat g with h6 | ⟨B, p, h6⟩
    · rw [begins_bad h2 hl hg h5 (.inr h6), accept_bad h ha h2 hl hg h5 (.inr h6)]
      exact ⟨rfl, fun _ => rfl⟩
    have hl2 : g.length = B.length + 1 := by rw [h6]; simp
    have hp : g[B.length]? = some p := by rw [h6]; simp
    rw [accept_ins h ha h2 hl hg h5 hi hl2 hp]
    by_cases h9 : p.length < 12
    · rw [begins_ins h2 hl hg h5 hi hl2 hp h9]
      exact ⟨by simp [h9], fun _ => rfl⟩
    · rw [begins_full h2 hl hg h5 hl2 hp h9]
      exact ⟨by simp [h9], fun h => by cases h⟩
theorem small_begins {s : VScript} {l : ByteArray} {ws : List ByteArray} (h : readAct l = none) (ha : s.Acts = []) (hs : Small s) (h2 : (begins s l ws).2 = true) : Small (begins s l ws).1 := by
  have h3 := begins_accept (ws := ws) h ha
  rw [h3.2 h2]
  exact small_accept hs (by rw [← h3.1]; exact h2)
end Go.Proofs.YtfbjcdhphhfpfaaGreatDoor.T

