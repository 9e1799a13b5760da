/- The lifted walk, part c: one cell is written; what else memory bears stays as it was. No condition. -/
import Derived.Test.YtdlpmcjpbcbbjaaDoorTb
namespace Go.Proofs.YtdlpmcjpbcbbjaaDoor.T
open Go
set_option linter.unusedVariables false
set_option linter.unusedSimpArgs false

/-- One cell of one block holds a new value. -/
structure Wr (w w' : World) (b0 t0 : Nat) (u : Value) : Prop where
  other : ∀ b, b ≠ b0 → w'.heap[b]? = w.heap[b]?
  here : ∀ cs e, w.heap[b0]? = some (.cells cs e (0, 0)) → ∃ cs' : Array Value, cs'.size = cs.size ∧ w'.heap[b0]? = some (.cells cs' e (0, 0))
  cell : ∀ t, t ≠ t0 → w'.cell? ⟨b0, t, none⟩ = w.cell? ⟨b0, t, none⟩
  new : w'.cell? ⟨b0, t0, none⟩ = some u

theorem Wr.cell' {w w' : World} {b0 t0 : Nat} {u : Value} (h : Wr w w' b0 t0 u) (b t : Nat) (hne : b ≠ b0 ∨ t ≠ t0) : w'.cell? ⟨b, t, none⟩ = w.cell? ⟨b, t, none⟩ := by
  by_cases hb : b = b0
  · subst hb
    exact h.cell t (hne.resolve_left (fun h => h rfl))
  · exact cell_eq (h.other b hb) t

/-- The place (p', q') is (p, q) or lies behind it. -/
def Un (p : List (Nat × Nat)) (q : Nat) (p' : List (Nat × Nat)) (q' : Nat) : Prop := (p' = p ∧ q' = q) ∨ ∃ i r, p' = p ++ (q, i) :: r

theorem Un.refl (p : List (Nat × Nat)) (q : Nat) : Un p q p q := .inl ⟨rfl, rfl⟩

theorem Un.both {p p' P : List (Nat × Nat)} {q q' Q : Nat} (h : Un p q P Q) (h' : Un p' q' P Q) : Un p q p' q' ∨ Un p' q' p q := by
  rcases h with ⟨rfl, rfl⟩ | ⟨i, r, rfl⟩
  · exact .inr h'
  · rcases h' with ⟨h1, rfl⟩ | ⟨i', r', h1⟩
    · exact .inl (.inr ⟨i, r, h1.symm⟩)
    · rcases List.append_eq_append_iff.1 h1 with ⟨a, ha, hb⟩ | ⟨a, ha, hb⟩
      · cases a with
        | nil =>
          simp only [List.nil_append, List.cons.injEq, Prod.mk.injEq, List.append_nil] at ha hb
          exact .inl (.inl ⟨ha, hb.1.1.symm⟩)
        | cons x a =>
          simp only [List.cons_append, List.cons.injEq] at hb
          exact .inl (.inr ⟨i, a, by rw [ha, ← hb.1]⟩)
      · cases a with
        | nil =>
          simp only [List.nil_append, List.cons.injEq, Prod.mk.injEq, List.append_nil] at ha hb
          exact .inl (.inl ⟨ha.symm, hb.1.1⟩)
        | cons x a =>
          simp only [List.cons_append, List.cons.injEq] at hb
          exact .inr (.inr ⟨i', a, by rw [ha, ← hb.1]⟩)

/-- The tag is one of the place (k, p, q) or of a place behind it. -/
def Tag.within (k : Nat) (p : List (Nat × Nat)) (q : Nat) (t : Tag) : Prop := ∃ p' q', t = .lies k p' q' ∧ Un p q p' q'

theorem tagOf_within {k : Nat} {p p' : List (Nat × Nat)} {q : Nat} (h : (tagOf k p).within k p' q) : ∃ i r, p = p' ++ (q, i) :: r := by
  obtain ⟨p1, q1, h1, h2⟩ := h
  rcases List.eq_nil_or_concat p with rfl | ⟨l, x, rfl⟩
  · simp [tagOf_nil] at h1
  · obtain ⟨a, b⟩ := x
    rw [List.concat_eq_append] at h1 ⊢
    rw [tagOf_snoc] at h1
    simp only [Tag.lies.injEq, true_and] at h1
    obtain ⟨rfl, rfl⟩ := h1
    rcases h2 with ⟨rfl, rfl⟩ | ⟨i, r, rfl⟩
    · exact ⟨b, [], rfl⟩
    · exact ⟨i, r ++ [(a, b)], by simp⟩

theorem tagOf_behind (k : Nat) (p : List (Nat × Nat)) (q i : Nat) (r : List (Nat × Nat)) : (tagOf k (p ++ (q, i) :: r)).within k p q := by
  rcases List.eq_nil_or_concat r with rfl | ⟨l, x, rfl⟩
  · rw [tagOf_snoc]
    exact ⟨_, _, rfl, Un.refl _ _⟩
  · obtain ⟨x1, x2⟩ := x
    have : p ++ (q, i) :: l.concat (x1, x2) = (p ++ (q, i) :: l) ++ [(x1, x2)] := by simp
    rw [this, tagOf_snoc]
    exact ⟨_, _, rfl, .inr ⟨i, l, rfl⟩⟩

/-- THE WRITE of the value u at the place (k, p, q); what lay at the tags 'src' has moved behind it. -/
structure Eff (w : World) (g : Gh) (w' : World) (g' : Gh) (k : Nat) (p : List (Nat × Nat)) (q b0 t0 : Nat) (u : Value) (src : Tag → Prop) : Prop where
  wr : Wr w w' b0 t0 u
  at_ : cellAddr (g.ad k p) q = ⟨b0, t0, none⟩
  tag : g.o b0 = tagOf k p
  cv : ∀ k' p' q', ¬ (k' = k ∧ Un p q p' q') → g'.cv k' p' q' = g.cv k' p' q'
  ad : ∀ k' p', ¬ (k' = k ∧ ∃ i r, p' = p ++ (q, i) :: r) → g'.ad k' p' = g.ad k' p'
  o : ∀ b, ¬ src (g.o b) → g'.o b = g.o b
  so : ∀ b, src (g.o b) → (g'.o b).root? ≠ none
  sb : ∀ b, src (g.o b) → ∀ j, g'.o b ≠ .box j
  src : ∀ t, src t → ∃ k', t.root? = some k' ∧ k' ≠ k
  new : g'.cv k p q = u

section
variable {w w' : World} {g g' : Gh} {k : Nat} {p : List (Nat × Nat)} {q b0 t0 : Nat} {u : Value} {src : Tag → Prop}

theorem Eff.ro (h : Eff w g w' g' k p q b0 t0 u src) : ∀ b, g.o b = .ro → g'.o b = .ro ∧ w'.heap[b]? = w.heap[b]? := by
  intro b hb
  have hns : ¬ src (g.o b) := fun hs => by
    obtain ⟨k', h1, _⟩ := h.src _ hs
    rw [hb] at h1
    cases h1
  refine ⟨by rw [h.o b hns]; exact hb, h.wr.other b (fun e => ?_)⟩
  · subst e
    have := h.tag
    rw [hb] at this
    have h2 := tagOf_root k p
    rw [← this] at h2; cases h2

/-- A place of another root, or one that neither holds nor lies behind the written one, keeps what it has. -/
theorem Eff.other (h : Eff w g w' g' k p q b0 t0 u src) {k1 : Nat} {p1 : List (Nat × Nat)} {q1 : Nat} {d : D} (hne : k1 = k → ¬ Un p1 q1 p q ∧ ¬ Un p q p1 q1 ∧ ∀ i r, p ≠ p1 ++ (q1, i) :: r)
    (hsrc : ∀ t, src t → ¬ t.within k1 p1 q1) (hr : Ow w g k1 p1 q1 d) : Ow w' g' k1 p1 q1 d := by
  have hcv : ∀ p' q', Un p1 q1 p' q' → g'.cv k1 p' q' = g.cv k1 p' q' := fun p' q' hu => h.cv k1 p' q' (fun ⟨e, hu'⟩ => by
    obtain ⟨n1, n2, _⟩ := hne e
    rcases Un.both hu hu' with hx | hx
    · exact n1 hx
    · exact n2 hx)
  have hb : ∀ b p' q', g.o b = .lies k1 p' q' → Un p1 q1 p' q' → g'.o b = g.o b ∧ w'.heap[b]? = w.heap[b]? := fun b p' q' hb hu => by
    refine ⟨h.o b (fun hs => hsrc _ hs ⟨p', q', hb, hu⟩), h.wr.other b (fun e => ?_)⟩
    subst e
    have ht := h.tag
    have hroot := tagOf_root k p
    rw [← ht, hb] at hroot
    have hk : k1 = k := by simpa [Tag.root?] using hroot
    have hw : (tagOf k p).within k p1 q1 := ⟨p', q', by rw [← ht, hb, hk], hu⟩
    obtain ⟨i, r, hp⟩ := tagOf_within hw
    exact (hne hk).2.2 i r hp
  refine Ow.move hr ⟨hcv _ _ (Un.refl _ _), fun i r q' => hcv _ _ (.inr ⟨i, r, rfl⟩), fun i r => h.ad _ _ (fun ⟨e, i', r', hx⟩ => ?_), fun b hb' => ?_, fun b i r q' hb' => ?_⟩
  · obtain ⟨n1, n2, n3⟩ := hne e
    rcases Un.both (p := p1) (q := q1) (p' := p) (q' := q) (P := p1 ++ (q1, i) :: r) (Q := 0) (.inr ⟨i, r, rfl⟩) (.inr ⟨i', r', hx⟩) with hy | hy
    · exact n1 hy
    · exact n2 hy
  · have := hb b p1 q1 hb' (Un.refl _ _)
    rw [hb'] at this
    exact this
  · have := hb b _ q' hb' (.inr ⟨i, r, rfl⟩)
    rw [hb'] at this
    exact this

/-- THE SLICE ON THE WAY: its cell behind the write, where the row that the way goes on in is right again. -/
theorem Eff.own {r : List (Nat × Nat)} {p0 : List (Nat × Nat)} {q1 i1 sz : Nat} {ds : List D} {e : D} {er : List D} {d : D} (h : Eff w g w' g' k (p0 ++ (q1, i1) :: r) q b0 t0 u src)
    (hsl : Ow w g k p0 q1 (.sl sz ds)) (he : ds[i1]? = some e) (hdr : d.row = [d]) (her : setAt e.row r q d = some er) (hin : RowOk w' g' k (p0 ++ [(q1, i1)]) er) :
    Ow w' g' k p0 q1 (.sl sz (ds.set i1 (e.reRow er))) := by
  have h' : Eff w g w' g' k ((p0 ++ [(q1, i1)]) ++ r) q b0 t0 u src := by simpa using h
  have herl := setAt_length r e.row q d er her
  have hne : ∀ (p' : List (Nat × Nat)), p'.length ≤ p0.length → ∀ (i : Nat) (x : List (Nat × Nat)), p' ≠ (p0 ++ (q1, i1) :: r) ++ (q, i) :: x := fun p' hp' i x hx => by
    have := congrArg List.length hx
    simp only [List.length_append, List.length_cons] at this
    omega
  have had : ∀ (p' : List (Nat × Nat)), p'.length ≤ p0.length → g'.ad k p' = g.ad k p' := fun p' hp' => h.ad k p' (fun ⟨_, i, x, hx⟩ => hne p' hp' i x hx)
  have hcv : ∀ (p' : List (Nat × Nat)) (j : Nat), p'.length ≤ p0.length → g'.cv k p' j = g.cv k p' j := fun p' j hp' => h.cv k p' j (fun ⟨_, hu⟩ => by
    rcases hu with ⟨hx, _⟩ | ⟨i, x, hx⟩
    · have := congrArg List.length hx
      simp only [List.length_append, List.length_cons] at this
      omega
    · exact hne p' hp' i x hx)
  have hsrcw : ∀ (p' : List (Nat × Nat)) (j : Nat) t, src t → ¬ t.within k p' j := fun p' j t ht hw => by
    obtain ⟨k', h1, h2⟩ := h.src t ht
    obtain ⟨p'', q'', rfl, _⟩ := hw
    exact h2 (by simpa [Tag.root?] using h1.symm)
  cases hsl with
  | nil _ _ _ hc => simp at he
  | sl _ _ _ _ b off n c cs ty hc hn hm hnc hcm ho hb hfit hro had0 hcell hel =>
    have hi1 : i1 < n := by
      have := (List.getElem?_eq_some_iff.1 he).1
      omega
    have herr : (e.reRow er).row = er := by
      refine D.row_reRow e er herl (fun x hx hst => ?_)
      subst hx
      cases r with
      | nil =>
        simp only [setAt] at her
        split at her
        · simp only [Option.some.injEq] at her
          cases e with
          | st ds => exact absurd rfl (hst ds)
          | _ =>
            simp only [D.row, List.length_cons, List.length_nil] at *
            have hq0 : q = 0 := by omega
            subst hq0
            simp only [List.set_cons_zero, List.cons.injEq, and_true] at her
            subst her
            exact hdr
        · cases her
      | cons y r =>
        obtain ⟨y1, y2⟩ := y
        simp only [setAt] at her
        split at her
        · rename_i sz' ds' hy
          split at her
          · simp only [Option.map_eq_some_iff] at her
            obtain ⟨z, _, hz⟩ := her
            cases e with
            | st ds => exact absurd rfl (hst ds)
            | _ =>
              simp only [D.row] at *
              cases y1 with
              | zero =>
                simp only [List.set_cons_zero, List.cons.injEq, and_true] at hz
                subst hz
                rfl
              | succ y1 => simp at hy
          · cases her
        · cases her
    have hbe : b = b0 ∨ w'.heap[b]? = w.heap[b]? := by
      by_cases e2 : b = b0
      · exact .inl e2
      · exact .inr (h.wr.other b e2)
    have hob : g'.o b = .lies k p0 q1 := by
      rw [h.o b (fun hs => ?_)]
      · exact ho
      · obtain ⟨k', h1, h2⟩ := h.src _ hs
        rw [ho] at h1
        exact h2 (by simpa [Tag.root?] using h1.symm)
    have hblk : ∃ cs' : Array Value, cs'.size = cs.size ∧ w'.heap[b]? = some (.cells cs' ty (0, 0)) := by
      rcases hbe with rfl | hx
      · exact h.wr.here cs ty hb
      · exact ⟨cs, rfl, by rw [hx]; exact hb⟩
    obtain ⟨cs', hcs', hb'⟩ := hblk
    have hadi : ∀ i, i < n → g'.ad k (p0 ++ [(q1, i)]) = (b, off + i * sz) := fun i hi => by
      rw [h.ad k _ (fun ⟨_, i', x, hx⟩ => by
        have := congrArg List.length hx
        simp only [List.length_append, List.length_cons, List.length_nil] at this
        omega)]
      exact had0 i hi
    refine .sl p0 q1 sz _ b off n c cs' ty (by rw [hcv p0 q1 (Nat.le_refl _)]; exact hc) (by simpa using hn) hm hnc hcm hob hb' (by rw [hcs']; exact hfit)
      (fun d' hd' => ?_) hadi (fun i j hi hj => ?_) (fun i d' hd' j c' hj => ?_)
    · rcases List.mem_or_eq_of_mem_set hd' with hx | rfl
      · exact hro d' hx
      · rw [herr, herl]
        exact hro e (List.mem_of_getElem? he)
    · by_cases ei : i = i1
      · subst ei
        have hlen : er.length = sz := by rw [herl]; exact hro e (List.mem_of_getElem? he)
        have := hin.cell j (by omega)
        rw [hadi i hi] at this
        exact this
      · have hcv' : g'.cv k (p0 ++ [(q1, i)]) j = g.cv k (p0 ++ [(q1, i)]) j := h.cv k _ j (fun ⟨_, hu⟩ => by
          rcases hu with ⟨hx, _⟩ | ⟨i', x, hx⟩
          · have := List.append_cancel_left hx
            simp at this
            exact ei this.1
          · rw [List.append_assoc] at hx
            have := List.append_cancel_left hx
            simp at this)
        rw [hcv', ← hcell i j hi hj]
        by_cases e2 : b = b0
        · subst e2
          refine h.wr.cell' _ _ (.inr fun ht => ?_)
          have ha := h.at_
          have hi1' := h'.at_
          cases r with
          | nil =>
            simp only [List.append_nil] at hi1'
            rw [had0 i1 hi1] at hi1'
            simp only [cellAddr, Addr.mk.injEq, and_true, true_and] at hi1'
            have hql : q < sz := by
              simp only [setAt] at her
              split at her
              · rename_i hq'
                rw [hro e (List.mem_of_getElem? he)] at hq'
                exact hq'
              · cases her
            have h1 : i * sz + j = i1 * sz + q := by omega
            have h2 : i = i1 := by
              rcases Nat.lt_trichotomy i i1 with hlt | heq | hgt
              · have : (i + 1) * sz ≤ i1 * sz := Nat.mul_le_mul_right _ hlt
                rw [Nat.add_mul] at this
                omega
              · exact heq
              · have : (i1 + 1) * sz ≤ i * sz := Nat.mul_le_mul_right _ hgt
                rw [Nat.add_mul] at this
                omega
            exact ei h2
          | cons y r =>
            obtain ⟨y1, y2⟩ := y
            have ht1 := h.tag
            rw [ho] at ht1
            have hw : (tagOf k (p0 ++ (q1, i1) :: (y1, y2) :: r)).within k (p0 ++ [(q1, i1)]) y1 := by
              have := tagOf_behind k (p0 ++ [(q1, i1)]) y1 y2 r
              simpa using this
            rw [← ht1] at hw
            obtain ⟨p', q', hx, hu⟩ := hw
            simp only [Tag.lies.injEq, true_and] at hx
            obtain ⟨rfl, rfl⟩ := hx
            rcases hu with ⟨hx, _⟩ | ⟨i', x, hx⟩
            · have := congrArg List.length hx
              simp only [List.length_append, List.length_cons, List.length_nil] at this
              omega
            · have := congrArg List.length hx
              simp only [List.length_append, List.length_cons, List.length_nil] at this
              omega
        · exact cell_eq (h.wr.other b e2) _
    · rw [List.getElem?_set] at hd'
      by_cases ei : i1 = i
      · subst ei
        rw [if_pos rfl] at hd'
        split at hd'
        · simp only [Option.some.injEq] at hd'
          subst hd'
          rw [herr] at hj
          exact hin.own j c' hj
        · cases hd'
      · rw [if_neg ei] at hd'
        refine h.other (fun _ => ⟨fun hu => ?_, fun hu => ?_, fun i' x hx => ?_⟩) (hsrcw _ _) (hel i d' hd' j c' hj)
        · rcases hu with ⟨hx, _⟩ | ⟨i', x, hx⟩
          · have := List.append_cancel_left hx
            simp at this
            exact ei this.1
          · rw [List.append_assoc] at hx
            have := List.append_cancel_left hx
            simp at this
            exact ei this.1
        · rcases hu with ⟨hx, _⟩ | ⟨i', x, hx⟩
          · have := List.append_cancel_left hx
            simp at this
            exact ei this.1.symm
          · rw [List.append_assoc] at hx
            have := List.append_cancel_left hx
            simp at this
        · rw [List.append_assoc] at hx
          have := List.append_cancel_left hx
          simp at this
          exact ei this.1

/-- THE ROW BEHIND THE WRITE. -/
theorem Eff.row : ∀ (r : List (Nat × Nat)) {p0 : List (Nat × Nat)} {row row' : List D} {d : D} (h : Eff w g w' g' k (p0 ++ r) q b0 t0 u src), RowOk w g k p0 row →
    Ow w' g' k (p0 ++ r) q d → d.row = [d] → setAt row r q d = some row' → RowOk w' g' k p0 row'
  | [], p0, row, row', d, h, hrow, hd, _, hs => by
    rw [List.append_nil] at h hd
    simp only [setAt] at hs
    split at hs
    · rename_i hq
      simp only [Option.some.injEq] at hs
      subst hs
      have had : g'.ad k p0 = g.ad k p0 := h.ad k p0 (fun ⟨_, i, r, hx⟩ => by
        have := congrArg List.length hx
        simp only [List.length_append, List.length_cons, List.length_nil] at this
        omega)
      have hnsrc : g'.o (g.ad k p0).1 = g.o (g.ad k p0).1 := h.o _ (fun hs => by
        obtain ⟨k', h1, h2⟩ := h.src _ hs
        rw [hrow.tag, tagOf_root] at h1
        exact h2 (by simpa using h1.symm))
      refine ⟨fun j c hj => ?_, fun j hj => ?_, by rw [had, hnsrc]; exact hrow.tag⟩
      · rw [List.getElem?_set] at hj
        by_cases e : q = j
        · subst e
          rw [if_pos rfl] at hj
          rw [if_pos hq, Option.some.injEq] at hj
          subst hj
          exact hd
        · rw [if_neg e] at hj
          refine h.other (fun _ => ⟨fun hu => ?_, fun hu => ?_, fun i r hx => ?_⟩) (fun t ht hw => ?_) (hrow.own j c hj)
          · rcases hu with ⟨_, hq'⟩ | ⟨i, r, hx⟩
            · first | exact e hq' | exact e hq'.symm
            · have := congrArg List.length hx
              simp only [List.length_append, List.length_cons, List.length_nil] at this
              omega
          · rcases hu with ⟨_, hq'⟩ | ⟨i, r, hx⟩
            · first | exact e hq' | exact e hq'.symm
            · have := congrArg List.length hx
              simp only [List.length_append, List.length_cons, List.length_nil] at this
              omega
          · have := congrArg List.length hx
            simp only [List.length_append, List.length_cons, List.length_nil] at this
            omega
          · obtain ⟨k', h1, h2⟩ := h.src t ht
            obtain ⟨p', q', rfl, _⟩ := hw
            exact h2 (by simpa [Tag.root?] using h1.symm)
      · rw [List.length_set] at hj
        rw [had]
        by_cases e : j = q
        · subst e
          rw [h.at_, h.new]
          exact h.wr.new
        · rw [h.cv k p0 j (fun ⟨_, hu⟩ => by
            rcases hu with ⟨_, hq'⟩ | ⟨i, r, hx⟩
            · first | exact e hq' | exact e hq'.symm
            · have := congrArg List.length hx
              simp only [List.length_append, List.length_cons, List.length_nil] at this
              omega), ← hrow.cell j hj]
          have ha := h.at_
          simp only [cellAddr, Addr.mk.injEq, and_true] at ha ⊢
          exact h.wr.cell' _ _ (.inr (by omega))
    · cases hs
  | (q1, i1) :: r, p0, row, row', d, h, hrow, hd, hdr, hs => by
    simp only [setAt] at hs
    split at hs
    · rename_i sz ds hq
      split at hs
      · rename_i e he
        simp only [Option.map_eq_some_iff] at hs
        obtain ⟨er, her, rfl⟩ := hs
        have h' : Eff w g w' g' k ((p0 ++ [(q1, i1)]) ++ r) q b0 t0 u src := by simpa using h
        have hd' : Ow w' g' k ((p0 ++ [(q1, i1)]) ++ r) q d := by simpa using hd
        have hin := Eff.row r h' ((hrow.own q1 _ hq).row he) hd' hdr her
        have herl := setAt_length r e.row q d er her
        have hne : ∀ (p' : List (Nat × Nat)), p'.length ≤ p0.length → ∀ (i : Nat) (x : List (Nat × Nat)), p' ≠ (p0 ++ (q1, i1) :: r) ++ (q, i) :: x := fun p' hp' i x hx => by
          have := congrArg List.length hx
          simp only [List.length_append, List.length_cons, List.length_nil] at this
          omega
        have had : ∀ (p' : List (Nat × Nat)), p'.length ≤ p0.length → g'.ad k p' = g.ad k p' := fun p' hp' => h.ad k p' (fun ⟨_, i, x, hx⟩ => hne p' hp' i x hx)
        have hcv : ∀ (p' : List (Nat × Nat)) (j : Nat), p'.length ≤ p0.length → g'.cv k p' j = g.cv k p' j := fun p' j hp' => h.cv k p' j (fun ⟨_, hu⟩ => by
          rcases hu with ⟨hx, _⟩ | ⟨i, x, hx⟩
          · have := congrArg List.length hx
            simp only [List.length_append, List.length_cons, List.length_nil] at this
            omega
          · exact hne p' hp' i x hx)
        have hsrcw : ∀ (p' : List (Nat × Nat)) (j : Nat) t, src t → ¬ t.within k p' j := fun p' j t ht hw => by
          obtain ⟨k', h1, h2⟩ := h.src t ht
          obtain ⟨p'', q'', rfl, _⟩ := hw
          exact h2 (by simpa [Tag.root?] using h1.symm)
        have hnsrc : ∀ b, g.o b = tagOf k p0 → g'.o b = g.o b := fun b hb => h.o b (fun hs => by
          obtain ⟨k', h1, h2⟩ := h.src _ hs
          rw [hb, tagOf_root] at h1
          exact h2 (by simpa using h1.symm))
        refine ⟨fun j c hj => ?_, fun j hj => ?_, by rw [had p0 (Nat.le_refl _), hnsrc _ hrow.tag]; exact hrow.tag⟩
        · rw [List.getElem?_set] at hj
          by_cases e1 : q1 = j
          · subst e1
            rw [if_pos rfl] at hj
            split at hj
            · simp only [Option.some.injEq] at hj
              subst hj
              exact Eff.own h (hrow.own q1 _ hq) he hdr her hin
            · cases hj
          · rw [if_neg e1] at hj
            refine h.other (fun _ => ⟨fun hu => ?_, fun hu => ?_, fun i' x hx => ?_⟩) (hsrcw _ _) (hrow.own j c hj)
            · rcases hu with ⟨hx, _⟩ | ⟨i', x, hx⟩
              · have := congrArg List.length hx
                simp only [List.length_append, List.length_cons, List.length_nil] at this
                omega
              · have := List.append_cancel_left hx
                simp at this
                exact e1 this.1.1
            · rcases hu with ⟨hx, _⟩ | ⟨i', x, hx⟩
              · have := congrArg List.length hx
                simp only [List.length_append, List.length_cons, List.length_nil] at this
                omega
              · have := congrArg List.length hx
                simp only [List.length_append, List.length_cons, List.length_nil] at this
                omega
            · have := List.append_cancel_left hx
              simp at this
              exact e1 this.1.1
        · rw [List.length_set] at hj
          rw [had p0 (Nat.le_refl _), hcv p0 j (Nat.le_refl _), ← hrow.cell j hj]
          refine h.wr.cell' _ _ (.inl fun hb => ?_)
          have ht1 := h.tag
          rw [← hb, hrow.tag] at ht1
          have hw := tagOf_behind k p0 q1 i1 r
          rw [← ht1] at hw
          obtain ⟨i, x, hx⟩ := tagOf_within hw
          have := congrArg List.length hx
          simp only [List.length_append, List.length_cons] at this
          omega
      · cases hs
    · cases hs
end

end Go.Proofs.YtdlpmcjpbcbbjaaDoor.T
