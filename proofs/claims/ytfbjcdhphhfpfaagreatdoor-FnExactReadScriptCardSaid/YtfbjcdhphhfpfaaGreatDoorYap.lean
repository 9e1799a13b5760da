/- Scripts read from a text: what both sides compute, in plain Lean. No condition. -/
import Derived.Test.YtfbjcdhphhfpfaaGreatDoorWop
import Derived.Test.YtfbjcdhphhfpfaaGreatDoorWmp
import Derived.Lib.SplitLaws
import Derived.Lib.IndexBytes
namespace Go.Proofs.YtfbjcdhphhfpfaaGreatDoor.T
open Go
set_option linter.unusedVariables false
set_option linter.unusedSimpArgs false
set_option maxRecDepth 100000

/- LINES -/
/-- The lines of a text, over its bytes. -/
def cutL : List UInt8 → List (List UInt8)
  | [] => [[]]
  | c :: l => if c = 10 then [] :: cutL l else match cutL l with
    | h :: t => (c :: h) :: t
    | [] => [[c]]
theorem cutL_nl (l : List UInt8) : cutL (10 :: l) = [] :: cutL l := by simp [cutL]
theorem cutL_app : ∀ (a l : List UInt8), (∀ c ∈ a, c ≠ 10) → cutL (a ++ 10 :: l) = a :: cutL l
  | [], l, _ => cutL_nl l
  | c :: a, l, h => by
    have h1 := h c List.mem_cons_self
    rw [List.cons_append, cutL, if_neg h1, cutL_app a l fun d hd => h d (List.mem_cons_of_mem _ hd)]
theorem cutL_last : ∀ (a : List UInt8), (∀ c ∈ a, c ≠ 10) → cutL a = [a]
  | [], _ => rfl
  | c :: a, h => by rw [cutL, if_neg (h c List.mem_cons_self), cutL_last a fun d hd => h d (List.mem_cons_of_mem _ hd)]
theorem count_app : ∀ (a l : List UInt8), (∀ c ∈ a, c ≠ 10) → (a ++ 10 :: l).count 10 = l.count 10 + 1
  | [], l, _ => by simp
  | c :: a, l, h => by
    rw [List.cons_append, List.count_cons_of_ne (by simpa using (h c List.mem_cons_self)), count_app a l fun d hd => h d (List.mem_cons_of_mem _ hd)]
/-- Every text is one line, or a line, a line feed and a text. -/
theorem line_split : ∀ s : List UInt8, (∀ c ∈ s, c ≠ 10) ∨ ∃ a l, s = a ++ 10 :: l ∧ ∀ c ∈ a, c ≠ 10
  | [] => .inl (by simp)
  | c :: s => by
    by_cases h : c = 10
    · subst h
      exact .inr ⟨[], s, rfl, by simp⟩
    · rcases line_split s with h1 | ⟨a, l, rfl, h1⟩
      · refine .inl fun d hd => ?_
        rcases List.mem_cons.1 hd with rfl | hd
        · exact h
        · exact h1 d hd
      · refine .inr ⟨c :: a, l, rfl, fun d hd => ?_⟩
        rcases List.mem_cons.1 hd with rfl | hd
        · exact h
        · exact h1 d hd
theorem index_app : ∀ (a l : List UInt8), (∀ c ∈ a, c ≠ 10) → Lib.index (a ++ 10 :: l) [10] = a.length
  | [], l, _ => by simp [Lib.index, List.isPrefixOf]
  | c :: a, l, h => by
    have h1 := h c List.mem_cons_self
    have ih := index_app a l fun d hd => h d (List.mem_cons_of_mem _ hd)
    rw [List.cons_append, Lib.index, ih]
    have hp : ([10] : List UInt8).isPrefixOf (c :: (a ++ 10 :: l)) = false := by simp [List.isPrefixOf]; exact fun e => h1 e.symm
    rw [hp]
    simp
theorem splitK_cut : ∀ (k : Nat) (s : List UInt8), s.count 10 = k → Lib.splitK [10] 0 k s = cutL s
  | 0, s, h => by
    have h1 : ∀ c ∈ s, c ≠ 10 := fun c hc e => by
      subst e
      have := List.count_pos_iff.2 hc
      omega
    rw [cutL_last s h1]
    rfl
  | k + 1, s, h => by
    rcases line_split s with h1 | ⟨a, l, rfl, h1⟩
    · have : s.count 10 = 0 := List.count_eq_zero.2 fun hc => h1 10 hc rfl
      omega
    · rw [count_app a l h1] at h
      rw [cutL_app a l h1, Lib.splitK, index_app a l h1, if_neg (by simp)]
      congr 1
      · simp
      · have : (a ++ 10 :: l).drop (((a.length : Nat) : Int).toNat + ([10] : List UInt8).length) = l := by
          rw [Int.toNat_natCast, List.length_singleton, List.drop_append, List.drop_of_length_le (by omega)]
          simp
        rw [this]
        exact splitK_cut k l (by omega)
def linesOf (s : ByteArray) : List ByteArray := (cutL s.data.toList).map fun l => ⟨l.toArray⟩
theorem split_lines (s : ByteArray) : Lib.splitB ⟨#[10]⟩ 0 (Lib.countB s ⟨#[10]⟩) s = linesOf s := by
  have h1 := Lib.splitB_data ⟨#[10]⟩ 0 (Lib.countB s ⟨#[10]⟩) s
  have h2 : Lib.countB s ⟨#[10]⟩ = s.data.toList.count 10 := Lib.count_one 10 s.data.toList
  rw [h2] at h1 ⊢
  rw [show (⟨#[10]⟩ : ByteArray).data.toList = [10] from rfl, splitK_cut _ _ rfl] at h1
  unfold linesOf
  rw [← h1, List.map_map]
  conv => lhs; rw [← List.map_id (Lib.splitB _ _ _ _)]
  refine List.map_congr_left fun b _ => ?_
  rfl
theorem cutL_len : ∀ l, (cutL l).length ≤ l.length + 1
  | [] => by simp [cutL]
  | c :: l => by
    have := cutL_len l
    unfold cutL
    split
    · simp; omega
    · split
      · rename_i e
        rw [e] at this
        simp at this ⊢
        omega
      · simp
theorem linesOf_len (s : ByteArray) : (linesOf s).length ≤ s.size + 1 := by
  have := cutL_len s.data.toList
  rw [Array.length_toList] at this
  simpa [linesOf] using this
theorem split_len (s : ByteArray) : Lib.countB s ⟨#[10]⟩ + 1 = (linesOf s).length := by
  rw [← split_lines, Lib.splitB_all ⟨#[10]⟩ (by decide) 0 _ s rfl]
/- A SCRIPT, LINE BY LINE -/
abbrev wMon : ByteArray := ⟨#[109, 111, 110, 105, 116, 111, 114]⟩
abbrev wGst : ByteArray := ⟨#[103, 117, 101, 115, 116]⟩
/-- An instruction put behind the last guest's. -/
def putIns (g : List (List VIns)) (i : VIns) : List (List VIns) := g.set (g.length - 1) (g[g.length - 1]?.getD [] ++ [i])
/-- A line that is no comment: the script behind it, and whether it is taken. -/
def accept (s : VScript) (line : ByteArray) (ws : List ByteArray) : VScript × Bool :=
  match readAct line with
  | some a => (⟨s.All, s.Acts ++ [a]⟩, decide (s.Acts.length < 80))
  | none =>
    if s.Acts ≠ [] then (s, false) else
    if ws = [wMon] then (⟨s.All ++ [[]], s.Acts⟩, decide (s.All.length < 3)) else
    match s.All[s.All.length - 1]? with
    | none => (s, false)
    | some g =>
      if ws = [wGst] then (⟨s.All.set (s.All.length - 1) (g ++ [[]]), s.Acts⟩, decide (g.length < 2)) else
      match readIns line, g[g.length - 1]? with
      | some i, some p => (⟨s.All.set (s.All.length - 1) (putIns g i), s.Acts⟩, decide (p.length < 12))
      | _, _ => (s, false)
theorem accept_act {s : VScript} {l : ByteArray} {ws : List ByteArray} {a : VAct} (h : readAct l = some a) : accept s l ws = (⟨s.All, s.Acts ++ [a]⟩, decide (s.Acts.length < 80)) := by
  unfold accept; rw [h]
theorem accept_late {s : VScript} {l : ByteArray} {ws : List ByteArray} (h : readAct l = none) (h1 : s.Acts ≠ []) : accept s l ws = (s, false) := by
  unfold accept; rw [h]; exact if_pos h1
theorem accept_mon {s : VScript} {l : ByteArray} {ws : List ByteArray} (h : readAct l = none) (h1 : s.Acts = []) (h2 : ws = [wMon]) : accept s l ws = (⟨s.All ++ [[]], s.Acts⟩, decide (s.All.length < 3)) := by
  unfold accept; rw [h]; exact (if_neg (fun e => e h1)).trans (if_pos h2)
theorem accept_none {s : VScript} {l : ByteArray} {ws : List ByteArray} (h : readAct l = none) (h1 : s.Acts = []) (h2 : ws ≠ [wMon]) (h3 : s.All = []) : accept s l ws = (s, false) := by
  unfold accept; rw [h]
  refine (if_neg (fun e => e h1)).trans ((if_neg h2).trans ?_)
  rw [show s.All[s.All.length - 1]? = none by rw [h3]; rfl]
theorem accept_gst {s : VScript} {l : ByteArray} {ws : List ByteArray} {m : Nat} {g : List (List VIns)} (h : readAct l = none) (h1 : s.Acts = []) (h2 : ws ≠ [wMon]) (h3 : s.All.length = m + 1) (h4 : s.All[m]? = some g) (h5 : ws = [wGst]) :
    accept s l ws = (⟨s.All.set m (g ++ [[]]), s.Acts⟩, decide (g.length < 2)) := by
  unfold accept; rw [h]
  refine (if_neg (fun e => e h1)).trans ((if_neg h2).trans ?_)
  rw [show s.All.length - 1 = m by omega, h4]
  exact if_pos h5
theorem accept_bad {s : VScript} {l : ByteArray} {ws : List ByteArray} {m : Nat} {g : List (List VIns)} (h : readAct l = none) (h1 : s.Acts = []) (h2 : ws ≠ [wMon]) (h3 : s.All.length = m + 1) (h4 : s.All[m]? = some g) (h5 : ws ≠ [wGst])
    (h6 : readIns l = none ∨ g = []) : accept s l ws = (s, false) := by
  unfold accept; rw [h]
  refine (if_neg (fun e => e h1)).trans ((if_neg h2).trans ?_)
  rw [show s.All.length - 1 = m by omega, h4]
  refine (if_neg h5).trans ?_
  rcases h6 with h6 | h6
  · rw [h6]
  · subst h6
    cases readIns l <;> rfl
theorem accept_ins {s : VScript} {l : ByteArray} {ws : List ByteArray} {m j : Nat} {g : List (List VIns)} {p : List VIns} {i : VIns} (h : readAct l = none) (h1 : s.Acts = []) (h2 : ws ≠ [wMon]) (h3 : s.All.length = m + 1) (h4 : s.All[m]? = some g) (h5 : ws ≠ [wGst])
    (h6 : readIns l = some i) (h7 : g.length = j + 1) (h8 : g[j]? = some p) : accept s l ws = (⟨s.All.set m (g.set j (p ++ [i])), s.Acts⟩, decide (p.length < 12)) := by
  unfold accept; rw [h]
  refine (if_neg (fun e => e h1)).trans ((if_neg h2).trans ?_)
  rw [show s.All.length - 1 = m by omega, h4]
  refine (if_neg h5).trans ?_
  rw [h6, show g.length - 1 = j by omega, h8]
  unfold putIns
  rw [show g.length - 1 = j by omega, h8]
  rfl
/-- Is the line empty, or a comment? -/
def skipW : List ByteArray → Bool
  | [] => true
  | w :: _ => decide (w.data.toList[0]? = some 35)
def noScript : VScript := ⟨[], []⟩
def readFrom : List ByteArray → VScript → Nat → VScript × Int
  | [], s, n => if scriptOk s then (s, 0) else (noScript, n + 1)
  | l :: ls, s, n => match parts l with
    | none => (noScript, n + 1)
    | some ws => if skipW ws then readFrom ls s (n + 1) else if (accept s l ws).2 then readFrom ls (accept s l ws).1 (n + 1) else (noScript, n + 1)
def readScript (t : ByteArray) : VScript × Int := if 12000 < t.size then (noScript, -1) else readFrom (linesOf t) noScript 0

/-- A script that can be read on. -/
def Small (s : VScript) : Prop := s.All.length ≤ 3 ∧ s.Acts.length ≤ 80 ∧ ∀ g ∈ s.All, g.length ≤ 2 ∧ ∀ p ∈ g, p.length ≤ 12
theorem small_no : Small noScript := ⟨by decide, by decide, fun g hg => by cases hg⟩
theorem small_accept {s : VScript} {l : ByteArray} {ws : List ByteArray} (h : Small s) (h2 : (accept s l ws).2 = true) : Small (accept s l ws).1 := by
  obtain ⟨h3, h4, h5⟩ := h
  unfold accept at h2 ⊢
  cases ha : readAct l with
  | some a =>
    rw [ha] at h2
    simp only [decide_eq_true_eq] at h2
    exact ⟨h3, by simp; omega, h5⟩
  | none =>
    rw [ha] at h2
    simp only at h2 ⊢
    split at h2
    · cases h2
    rename_i e1
    rw [if_neg e1]
    split at h2
    · rename_i e2
      rw [if_pos e2]
      simp only [decide_eq_true_eq] at h2
      refine ⟨by simp; omega, h4, fun g hg => ?_⟩
      rcases List.mem_append.1 hg with hg | hg
      · exact h5 g hg
      · rw [List.mem_singleton] at hg
        subst hg
        exact ⟨by simp, fun p hp => by cases hp⟩
    rename_i e2
    rw [if_neg e2]
    cases hg : s.All[s.All.length - 1]? with
    | none => rw [hg] at h2; cases h2
    | some g =>
      rw [hg] at h2
      have hgm := h5 g (List.mem_of_getElem? hg)
      simp only at h2 ⊢
      split at h2
      · rename_i e3
        rw [if_pos e3]
        simp only [decide_eq_true_eq] at h2
        refine ⟨by simp; omega, h4, fun g' hg' => ?_⟩
        rcases List.mem_or_eq_of_mem_set hg' with h6 | rfl
        · exact h5 g' h6
        · refine ⟨by simp; omega, fun p hp => ?_⟩
          rcases List.mem_append.1 hp with hp | hp
          · exact hgm.2 p hp
          · rw [List.mem_singleton] at hp
            subst hp
            simp
      rename_i e3
      rw [if_neg e3]
      cases hi : readIns l with
      | none => rw [hi] at h2; cases h2
      | some i =>
        cases hp : g[g.length - 1]? with
        | none => rw [hi, hp] at h2; cases h2
        | some p =>
          rw [hi, hp] at h2
          simp only [decide_eq_true_eq] at h2 ⊢
          refine ⟨by simp; omega, h4, fun g' hg' => ?_⟩
          rcases List.mem_or_eq_of_mem_set hg' with h6 | rfl
          · exact h5 g' h6
          · unfold putIns
            refine ⟨by simp; omega, fun p' hp' => ?_⟩
            rcases List.mem_or_eq_of_mem_set hp' with h6 | rfl
            · exact hgm.2 p' h6
            · rw [hp]; simp; omega
/-- What ReadScript gives. -/
abbrev RScr (q : VScript × Int) : Res → Prop := RG [.a (rScript q.1), .c (.v (.int .i64 q.2))]
/-- Behind so many lines. -/
theorem read_skip {ls : List ByteArray} {k : Nat} {l : ByteArray} {ws : List ByteArray} {s : VScript} (hl : ls[k]? = some l) (hp : parts l = some ws) (hs : skipW ws = true) : readFrom (ls.drop k) s k = readFrom (ls.drop (k + 1)) s (k + 1) := by
  rw [List.drop_eq_getElem_cons (List.getElem?_eq_some_iff.1 hl).1, (List.getElem?_eq_some_iff.1 hl).2, readFrom, hp]
  simp [hs]
theorem read_take {ls : List ByteArray} {k : Nat} {l : ByteArray} {ws : List ByteArray} {s : VScript} (hl : ls[k]? = some l) (hp : parts l = some ws) (hs : skipW ws = false) (ha : (accept s l ws).2 = true) : readFrom (ls.drop k) s k = readFrom (ls.drop (k + 1)) (accept s l ws).1 (k + 1) := by
  rw [List.drop_eq_getElem_cons (List.getElem?_eq_some_iff.1 hl).1, (List.getElem?_eq_some_iff.1 hl).2, readFrom, hp]
  simp [hs, ha]
theorem read_bad {ls : List ByteArray} {k : Nat} {l : ByteArray} {s : VScript} (hl : ls[k]? = some l) (hp : parts l = none) : readFrom (ls.drop k) s k = (noScript, (k : Int) + 1) := by
  rw [List.drop_eq_getElem_cons (List.getElem?_eq_some_iff.1 hl).1, (List.getElem?_eq_some_iff.1 hl).2, readFrom, hp]
theorem read_off {ls : List ByteArray} {k : Nat} {l : ByteArray} {ws : List ByteArray} {s : VScript} (hl : ls[k]? = some l) (hp : parts l = some ws) (hs : skipW ws = false) (ha : (accept s l ws).2 = false) : readFrom (ls.drop k) s k = (noScript, (k : Int) + 1) := by
  rw [List.drop_eq_getElem_cons (List.getElem?_eq_some_iff.1 hl).1, (List.getElem?_eq_some_iff.1 hl).2, readFrom, hp]
  simp [hs, ha]
theorem read_end {ls : List ByteArray} {k : Nat} {s : VScript} (hk : ls.length ≤ k) : readFrom (ls.drop k) s k = if scriptOk s then (s, 0) else (noScript, (k : Int) + 1) := by
  rw [List.drop_eq_nil_of_le hk, readFrom]
end Go.Proofs.YtfbjcdhphhfpfaaGreatDoor.T

