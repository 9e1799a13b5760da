/- The lifted walk, part b: content that moves to another place, and rows that are read and written through slices. No condition. -/
import Derived.Test.YtdlpmcjpbcbbjaaDoorTa
namespace Go.Proofs.YtdlpmcjpbcbbjaaDoor.T
open Go
set_option linter.unusedVariables false
set_option linter.unusedSimpArgs false

/-- What lies at (k1, p1, q1) lies, unchanged, at (k2, p2, q2) in the other world. -/
structure Reloc (w : World) (g : Gh) (w' : World) (g' : Gh) (k1 : Nat) (p1 : List (Nat × Nat)) (q1 : Nat) (k2 : Nat) (p2 : List (Nat × Nat)) (q2 : Nat) : Prop where
  cv0 : g'.cv k2 p2 q2 = g.cv k1 p1 q1
  cv : ∀ i r q', g'.cv k2 (p2 ++ (q2, i) :: r) q' = g.cv k1 (p1 ++ (q1, i) :: r) q'
  ad : ∀ i r, g'.ad k2 (p2 ++ (q2, i) :: r) = g.ad k1 (p1 ++ (q1, i) :: r)
  o0 : ∀ b, g.o b = .lies k1 p1 q1 → g'.o b = .lies k2 p2 q2 ∧ w'.heap[b]? = w.heap[b]?
  o : ∀ b i r q', g.o b = .lies k1 (p1 ++ (q1, i) :: r) q' → g'.o b = .lies k2 (p2 ++ (q2, i) :: r) q' ∧ w'.heap[b]? = w.heap[b]?

theorem Reloc.sub {w w' : World} {g g' : Gh} {k1 k2 : Nat} {p1 p2 : List (Nat × Nat)} {q1 q2 : Nat} (h : Reloc w g w' g' k1 p1 q1 k2 p2 q2) (i j : Nat) :
    Reloc w g w' g' k1 (p1 ++ [(q1, i)]) j k2 (p2 ++ [(q2, i)]) j := by
  refine ⟨h.cv i [] j, fun i' r q' => ?_, fun i' r => ?_, fun b hb => h.o b i [] j hb, fun b i' r q' hb => ?_⟩
  · simpa using h.cv i ((j, i') :: r) q'
  · simpa using h.ad i ((j, i') :: r)
  · have := h.o b i ((j, i') :: r) q' (by simpa using hb)
    simpa using this

theorem Ow.move {w w' : World} {g g' : Gh} {k1 k2 : Nat} {p1 : List (Nat × Nat)} {q1 : Nat} {d : D} (hr : Ow w g k1 p1 q1 d) : ∀ {p2 : List (Nat × Nat)} {q2 : Nat},
    Reloc w g w' g' k1 p1 q1 k2 p2 q2 → Ow w' g' k2 p2 q2 d := by
  induction hr with
  | v p q x hx hc => intro p2 q2 h; exact .v p2 q2 x hx (by rw [h.cv0]; exact hc)
  | hole p q => intro p2 q2 _; exact .hole p2 q2
  | nil p q sz hc => intro p2 q2 h; exact .nil p2 q2 sz (by rw [h.cv0]; exact hc)
  | sl p q sz ds b off n c cs e hc hn hm hnc hcm ho hb hfit hrow had hcell _ ih =>
    intro p2 q2 h
    have hs := h.o0 b ho
    exact .sl p2 q2 sz ds b off n c cs e (by rw [h.cv0]; exact hc) hn hm hnc hcm hs.1 (by rw [hs.2]; exact hb) hfit hrow
      (fun i hi => by rw [h.ad i []]; exact had i hi) (fun i j hi hj => by rw [cell_eq hs.2, h.cv i [] j]; exact hcell i j hi hj)
      (fun i d hd j c' hj => ih i d hd j c' hj (h.sub i j))

/-- Whose block the row at (k, p) lies in. -/
def tagOf (k : Nat) (p : List (Nat × Nat)) : Tag :=
  match p.getLast? with
  | none => .box k
  | some x => .lies k p.dropLast x.1

theorem tagOf_nil (k : Nat) : tagOf k [] = .box k := rfl
theorem tagOf_snoc (k : Nat) (p : List (Nat × Nat)) (q i : Nat) : tagOf k (p ++ [(q, i)]) = .lies k p q := by simp [tagOf]
theorem tagOf_root (k : Nat) (p : List (Nat × Nat)) : (tagOf k p).root? = some k := by
  unfold tagOf
  split <;> rfl

/-- The cells of a row at a place, each with its content. -/
structure RowOk (w : World) (g : Gh) (k : Nat) (p : List (Nat × Nat)) (row : List D) : Prop where
  own : ∀ (j : Nat) c, row[j]? = some c → Ow w g k p j c
  cell : ∀ j, j < row.length → w.cell? (cellAddr (g.ad k p) j) = some (g.cv k p j)
  tag : g.o (g.ad k p).1 = tagOf k p

theorem Ow.row {w : World} {g : Gh} {k : Nat} {p : List (Nat × Nat)} {q sz : Nat} {ds : List D} (h : Ow w g k p q (.sl sz ds)) {i : Nat} {d : D} (hd : ds[i]? = some d) :
    RowOk w g k (p ++ [(q, i)]) d.row := by
  cases h with
  | nil _ _ _ hc => simp at hd
  | sl _ _ _ _ b off n c cs e hc hn hm hnc hcm ho hb hfit hrow had hcell hel =>
    have hi : i < n := by
      have := (List.getElem?_eq_some_iff.1 hd).1
      omega
    refine ⟨fun j c' hj => hel i d hd j c' hj, fun j hj => ?_, by rw [had i hi, tagOf_snoc]; exact ho⟩
    rw [had i hi, cellAddr]
    exact hcell i j hi (by rw [hrow d (List.mem_of_getElem? hd)] at hj; exact hj)

/-- The row that a way through slices leads to. -/
def rowAt : List D → List (Nat × Nat) → Option (List D)
  | r, [] => some r
  | r, (q, i) :: p =>
    match r[q]? with
    | some (.sl _ ds) =>
      match ds[i]? with
      | some d => rowAt d.row p
      | none => none
    | _ => none

theorem RowOk.at {w : World} {g : Gh} {k : Nat} : ∀ (r : List (Nat × Nat)) {p : List (Nat × Nat)} {row row' : List D}, RowOk w g k p row → rowAt row r = some row' → RowOk w g k (p ++ r) row'
  | [], p, row, row', h, hr => by
    simp only [rowAt, Option.some.injEq] at hr
    subst hr
    simpa using h
  | (q, i) :: r, p, row, row', h, hr => by
    simp only [rowAt] at hr
    split at hr
    · rename_i sz ds hq
      split at hr
      · rename_i d hd
        have := RowOk.at r ((h.own q _ hq).row hd) hr
        simpa using this
      · cases hr
    · cases hr

def D.reRow : D → List D → D
  | .st _, ds => .st ds
  | d, [] => d
  | _, x :: _ => x

/-- The row with one cell anew. -/
def setAt : List D → List (Nat × Nat) → Nat → D → Option (List D)
  | row, [], q, d => if q < row.length then some (row.set q d) else none
  | row, (q, i) :: p, q', d =>
    match row[q]? with
    | some (.sl sz ds) =>
      match ds[i]? with
      | some e => (setAt e.row p q' d).map fun row' => row.set q (.sl sz (ds.set i (e.reRow row')))
      | none => none
    | _ => none

theorem setAt_length : ∀ (r : List (Nat × Nat)) (row : List D) (q : Nat) (d : D) (row' : List D), setAt row r q d = some row' → row'.length = row.length
  | [], row, q, d, row', h => by
    simp only [setAt] at h
    split at h
    · simp only [Option.some.injEq] at h; subst h; simp
    · cases h
  | (q, i) :: r, row, q', d, row', h => by
    simp only [setAt] at h
    split at h
    · split at h
      · simp only [Option.map_eq_some_iff] at h
        obtain ⟨x, _, rfl⟩ := h
        simp
      · cases h
    · cases h

theorem D.row_reRow (e : D) (row : List D) (h : row.length = e.row.length) (h1 : ∀ x, row = [x] → (∀ ds, e ≠ .st ds) → x.row = [x]) : (e.reRow row).row = row := by
  cases e with
  | st ds => rfl
  | v x =>
    simp only [D.row, List.length_cons, List.length_nil] at h
    obtain ⟨y, rfl⟩ := List.length_eq_one_iff.1 h
    exact h1 y rfl (by simp)
  | sl sz ds =>
    simp only [D.row, List.length_cons, List.length_nil] at h
    obtain ⟨y, rfl⟩ := List.length_eq_one_iff.1 h
    exact h1 y rfl (by simp)
  | hole =>
    simp only [D.row, List.length_cons, List.length_nil] at h
    obtain ⟨y, rfl⟩ := List.length_eq_one_iff.1 h
    exact h1 y rfl (by simp)

end Go.Proofs.YtdlpmcjpbcbbjaaDoor.T
