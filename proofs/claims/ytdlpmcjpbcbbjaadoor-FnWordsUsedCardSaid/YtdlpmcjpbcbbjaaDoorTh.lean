/- The lifted walk, part h: a store, at the state. No condition. -/
import Derived.Test.YtdlpmcjpbcbbjaaDoorTg
import Derived.Below
namespace Go.Proofs.YtdlpmcjpbcbbjaaDoor.T
open Go
set_option linter.unusedVariables false
set_option linter.unusedSimpArgs false

def Gh.wr (g : Gh) (k : Nat) (p : List (Nat × Nat)) (q : Nat) (u : Value) : Gh :=
  { g with cv := fun k' p' q' => if k' = k ∧ p' = p ∧ q' = q then u else g.cv k' p' q' }

/-- How a place lies behind (p, q): the element, and the way from there. -/
def behind (p : List (Nat × Nat)) (q : Nat) (P : List (Nat × Nat)) : Option (Nat × List (Nat × Nat)) :=
  match p, P with
  | [], (a, i) :: r => if a = q then some (i, r) else none
  | x :: p, y :: P => if x = y then behind p q P else none
  | _, [] => none

theorem behind_append (q i : Nat) (r : List (Nat × Nat)) : ∀ p : List (Nat × Nat), behind p q (p ++ (q, i) :: r) = some (i, r)
  | [] => by simp [behind]
  | x :: p => by simp only [List.cons_append, behind, if_true]; exact behind_append q i r p

theorem behind_some {q i : Nat} {r : List (Nat × Nat)} : ∀ {p P : List (Nat × Nat)}, behind p q P = some (i, r) → P = p ++ (q, i) :: r
  | [], (a, j) :: P, h => by
    simp only [behind] at h
    split at h
    · simp only [Option.some.injEq, Prod.mk.injEq] at h
      obtain ⟨rfl, rfl⟩ := h
      subst_vars
      rfl
    · cases h
  | x :: p, y :: P, h => by
    simp only [behind] at h
    split at h
    · rename_i e
      rw [behind_some h, e]
      rfl
    · cases h
  | [], [], h => by cases h
  | x :: p, [], h => by cases h

theorem behind_none {q : Nat} {p P : List (Nat × Nat)} (h : ¬ ∃ i r, P = p ++ (q, i) :: r) : behind p q P = none := by
  cases hb : behind p q P with
  | none => rfl
  | some x =>
    obtain ⟨i, r⟩ := x
    exact absurd ⟨i, r, behind_some hb⟩ h

/-- What lies at the cell (k1, [], q1) moves to (k, p, q), whose value is u. -/
def Gh.mv (g : Gh) (k1 q1 k : Nat) (p : List (Nat × Nat)) (q : Nat) (u : Value) : Gh where
  o b := match g.o b with
    | .lies k' p' q' => if k' = k1 then (if p' = [] ∧ q' = q1 then .lies k p q else match behind [] q1 p' with | some (i, r) => .lies k (p ++ (q, i) :: r) q' | none => .lies k' p' q') else .lies k' p' q'
    | t => t
  ad k' p' := if k' = k then (match behind p q p' with | some (i, r) => g.ad k1 ((q1, i) :: r) | none => g.ad k' p') else g.ad k' p'
  cv k' p' q' := if k' = k then (if p' = p ∧ q' = q then u else match behind p q p' with | some (i, r) => g.cv k1 ((q1, i) :: r) q' | none => g.cv k' p' q') else g.cv k' p' q'

theorem Wr.of_setCell {w : World} {b0 t0 : Nat} {u v : Value} (h : w.cell? ⟨b0, t0, none⟩ = some v) : Wr w (w.setCell ⟨b0, t0, none⟩ u) b0 t0 u := by
  refine ⟨fun b hb => RowKit.Below.heap_setCell w _ u b hb, fun cs e hc => ?_, fun t ht => ?_, World.cell?_setCell_same w _ u h⟩
  · refine ⟨cs.setIfInBounds t0 u, by simp, ?_⟩
    simp [World.setCell, Array.getElem?_modify, hc]
  · exact World.cell?_setCell_other w _ _ u (fun e => ht (congrArg Addr.off e).symm)

theorem Eff.of_wr {w w' : World} {g : Gh} {k : Nat} {p : List (Nat × Nat)} {q b0 t0 : Nat} {u : Value} (hw : Wr w w' b0 t0 u) (ha : cellAddr (g.ad k p) q = ⟨b0, t0, none⟩) (ht : g.o b0 = tagOf k p) :
    Eff w g w' (g.wr k p q u) k p q b0 t0 u (fun _ => False) :=
  ⟨hw, ha, ht, fun k' p' q' hn => by
    show (if k' = k ∧ p' = p ∧ q' = q then u else g.cv k' p' q') = _
    rw [if_neg (fun ⟨h1, h2, h3⟩ => hn ⟨h1, .inl ⟨h2, h3⟩⟩)], fun _ _ _ => rfl, fun _ _ => rfl, fun _ h => h.elim, fun _ h => h.elim, fun _ h => h.elim, by
    show (if k = k ∧ p = p ∧ q = q then u else g.cv k p q) = u
    rw [if_pos ⟨rfl, rfl, rfl⟩]⟩

/-- The tags of what lies at the cell (k1, [], q1). -/
def SrcOf (k1 q1 : Nat) (t : Tag) : Prop := t = .lies k1 [] q1 ∨ ∃ i r q', t = .lies k1 ((q1, i) :: r) q'

theorem Gh.mv_o_src {g : Gh} {k1 q1 k : Nat} {p : List (Nat × Nat)} {q : Nat} {u : Value} {b : Nat} (h : ¬ SrcOf k1 q1 (g.o b)) : (g.mv k1 q1 k p q u).o b = g.o b := by
  simp only [Gh.mv]
  split
  · rename_i k' p' q' ho
    rw [ho] at h
    by_cases hk : k' = k1
    · subst hk
      rw [if_pos rfl, if_neg (fun ⟨h1, h2⟩ => h (.inl (by rw [h1, h2]))), behind_none (fun ⟨i, r, h1⟩ => h (.inr ⟨i, r, q', by rw [h1]; rfl⟩)), ho]
    · rw [if_neg hk, ho]
  · rfl

theorem Gh.mv_o0 {g : Gh} {k1 q1 k : Nat} {p : List (Nat × Nat)} {q : Nat} {u : Value} {b : Nat} (h : g.o b = .lies k1 [] q1) : (g.mv k1 q1 k p q u).o b = .lies k p q := by
  simp [Gh.mv, h]

theorem Gh.mv_o1 {g : Gh} {k1 q1 k : Nat} {p : List (Nat × Nat)} {q : Nat} {u : Value} {b i q' : Nat} {r : List (Nat × Nat)} (h : g.o b = .lies k1 ((q1, i) :: r) q') :
    (g.mv k1 q1 k p q u).o b = .lies k (p ++ (q, i) :: r) q' := by
  simp [Gh.mv, h, behind]

theorem Eff.of_mv {w w' : World} {g : Gh} {k : Nat} {p : List (Nat × Nat)} {q b0 t0 : Nat} {u : Value} {k1 q1 : Nat} (hw : Wr w w' b0 t0 u) (ha : cellAddr (g.ad k p) q = ⟨b0, t0, none⟩) (ht : g.o b0 = tagOf k p)
    (hne : k1 ≠ k) : Eff w g w' (g.mv k1 q1 k p q u) k p q b0 t0 u (SrcOf k1 q1) := by
  refine ⟨hw, ha, ht, fun k' p' q' hn => ?_, fun k' p' hn => ?_, fun b hb => Gh.mv_o_src hb, fun b hb => ?_, fun b hb => ?_, fun t hs => ?_, ?_⟩
  · simp only [Gh.mv]
    split
    · rename_i e
      subst e
      rw [if_neg (fun ⟨h1, h2⟩ => hn ⟨rfl, .inl ⟨h1, h2⟩⟩), behind_none (fun ⟨i, r, h1⟩ => hn ⟨rfl, .inr ⟨i, r, h1⟩⟩)]
    · rfl
  · simp only [Gh.mv]
    split
    · rename_i e
      subst e
      rw [behind_none (fun ⟨i, r, h1⟩ => hn ⟨rfl, i, r, h1⟩)]
    · rfl
  · rcases hb with h | ⟨i, r, q', h⟩
    · rw [Gh.mv_o0 h]; simp [Tag.root?]
    · rw [Gh.mv_o1 h]; simp [Tag.root?]
  · intro j
    rcases hb with h | ⟨i, r, q', h⟩
    · rw [Gh.mv_o0 h]; simp
    · rw [Gh.mv_o1 h]; simp
  · rcases hs with rfl | ⟨i, r, q', rfl⟩
    · exact ⟨k1, rfl, hne⟩
    · exact ⟨k1, rfl, hne⟩
  · simp [Gh.mv]

theorem Reloc.of_mv {w w' : World} {g : Gh} {k : Nat} {p : List (Nat × Nat)} {q b0 t0 : Nat} {u : Value} {k1 q1 : Nat} (hw : Wr w w' b0 t0 u) (ht : g.o b0 = tagOf k p) (hne : k1 ≠ k) (hu : g.cv k1 [] q1 = u) :
    Reloc w g w' (g.mv k1 q1 k p q u) k1 [] q1 k p q := by
  have hb : ∀ b, (g.o b).root? = some k1 → w'.heap[b]? = w.heap[b]? := fun b hb => hw.other b (fun e => by
    subst e
    rw [ht, tagOf_root] at hb
    exact hne (by simpa using hb.symm))
  refine ⟨?_, fun i r q' => ?_, fun i r => ?_, fun b h => ⟨Gh.mv_o0 h, hb b (by rw [h]; rfl)⟩, fun b i r q' h => ⟨Gh.mv_o1 h, hb b (by rw [h]; rfl)⟩⟩
  · simp [Gh.mv, hu]
  · simp [Gh.mv, behind_append]
  · simp [Gh.mv, behind_append]

/-- THE STATE BEHIND A STORE of the value cell c at a place: a known value; a list that nobody writes; a root's own content, which moves; a reference. -/
def St.store1 (st : St) (pl : Pl) (c : C) : Option St :=
  match st.root pl.k with
  | none => none
  | some r =>
    let row := r.row.map (C.kill (hitR pl.k pl.p pl.q))
    match c with
    | .ro (.v x) => (setRow row pl.p pl.q (.own (.v x))).map fun row' => st.wrote pl.k pl.p pl.q r.mem row' none
    | .ro d => if pl.p.isEmpty then (setRow row pl.p pl.q (.ro d)).map fun row' => st.wrote pl.k pl.p pl.q r.mem row' none else none
    | .ref s =>
      if s.p.isEmpty && s.k != pl.k then
        match st.cellAt s with
        | some (.own d) => match d with
          | .st _ => none
          | d => (setRow row pl.p pl.q (.own d)).map fun row' => st.wrote pl.k pl.p pl.q r.mem row' (some (s.k, s.q))
        | _ => if pl.p.isEmpty && !hitR pl.k pl.p pl.q s then (setRow row pl.p pl.q (.ref s)).map fun row' => st.wrote pl.k pl.p pl.q r.mem row' none else none
      else if pl.p.isEmpty && !hitR pl.k pl.p pl.q s then (setRow row pl.p pl.q (.ref s)).map fun row' => st.wrote pl.k pl.p pl.q r.mem row' none
      else none
    | _ => none

section
variable {P : Program} {w0 : World} {g0 : Gh} {st : St} {a : Act} {w : World} {g : Gh}

theorem Rel.store1 (hR : Rel w0 g0 st a w g) {pl : Pl} {c c0 : C} {st' : St} {u : Value} (hc0 : st.cellAt pl = some c0) (hm : st.isMem pl = true) (hs : st.store1 pl c = some st') (hu : RepV w g c u) :
    ∃ g', Rel w0 g0 st' a (w.setCell (cellAddr (g.ad pl.k pl.p) pl.q) u) g' ∧ Agree w g (w.setCell (cellAddr (g.ad pl.k pl.p) pl.q) u) g' (hitR pl.k pl.p pl.q) (hitP pl.k pl.p pl.q) ∧
      g'.ad pl.k pl.p = g.ad pl.k pl.p := by
  obtain ⟨k, p, q⟩ := pl
  have h1 := hR.cellAt hc0
  have hcell := h1.2.2.1 hm
  have htag := (h1.2.2.2 hm).1
  have hw : Wr w (w.setCell (cellAddr (g.ad k p) q) u) (g.ad k p).1 ((g.ad k p).2 + q) u := Wr.of_setCell hcell
  have hadp : ∀ g', Eff w g (w.setCell (cellAddr (g.ad k p) q) u) g' k p q (g.ad k p).1 ((g.ad k p).2 + q) u (fun _ => False) → g'.ad k p = g.ad k p := fun g' he => he.ad k p (fun ⟨_, i, r, hx⟩ => by
    have := congrArg List.length hx
    simp only [List.length_append, List.length_cons] at this
    omega)
  simp only [St.store1] at hs
  split at hs
  · cases hs
  rename_i r hr
  have hE := Eff.of_wr (g := g) (k := k) (p := p) (q := q) hw rfl htag
  -- where nothing moves
  have still : ∀ (c1 : C) row', setRow (r.row.map (C.kill (hitR k p q))) p q c1 = some row' → RepCP (w.setCell (cellAddr (g.ad k p) q) u) (g.wr k p q u) k p q c1 →
      ∃ g', Rel w0 g0 (st.wrote k p q r.mem row' none) a (w.setCell (cellAddr (g.ad k p) q) u) g' ∧ Agree w g (w.setCell (cellAddr (g.ad k p) q) u) g' (hitR k p q) (hitP k p q) ∧ g'.ad k p = g.ad k p :=
    fun c1 row' hset hc1 => ⟨g.wr k p q u, hR.write hE (fun _ h => h) rfl rfl rfl (by simp) hr hset hc1, hE.agree, hadp _ hE⟩
  have halias : ∀ s, c = .ref s → p.isEmpty = true → hitR k p q s = false → RepCP (w.setCell (cellAddr (g.ad k p) q) u) (g.wr k p q u) k p q (.ref s) := fun s hcs hp hh => by
    subst hcs
    have hp' : p = [] := List.isEmpty_iff.1 hp
    subst hp'
    refine ⟨rfl, ?_⟩
    show (g.wr k [] q u).cv k [] q = (g.wr k [] q u).cv s.k s.p s.q ∧ ((g.wr k [] q u).cv k [] q).oneCell' = true
    have h2 : u = g.cv s.k s.p s.q ∧ u.oneCell' = true := hu
    rw [hE.new, hE.cv _ _ _ (hitR_of hh)]
    exact h2
  split at hs
  · rename_i x
    rw [Option.map_eq_some_iff] at hs
    obtain ⟨row', hset, rfl⟩ := hs
    have hx : Ro w g.o (.v x) u := hu
    cases hx with
    | v _ hp => exact still _ row' hset ⟨.v p q _ hp hE.new, rfl⟩
  · rename_i d hd
    split at hs
    · rename_i hp
      rw [Option.map_eq_some_iff] at hs
      obtain ⟨row', hset, rfl⟩ := hs
      have hp' : p = [] := List.isEmpty_iff.1 hp
      subst hp'
      refine still _ row' hset ⟨rfl, ?_⟩
      show Ro _ (g.wr k [] q u).o d ((g.wr k [] q u).cv k [] q)
      rw [hE.new]
      exact Ro.mono hE.ro hu
    · cases hs
  · rename_i s
    split at hs
    · rename_i hcond
      simp only [Bool.and_eq_true, bne_iff_ne, ne_eq] at hcond
      obtain ⟨hsp, hsk⟩ := hcond
      obtain ⟨k1, p1, q1⟩ := s
      simp only at hsp hsk
      have hp1 : p1 = [] := List.isEmpty_iff.1 hsp
      subst hp1
      have huv : u = g.cv k1 [] q1 := hu.1
      have move : ∀ d, st.cellAt ⟨k1, [], q1⟩ = some (.own d) → d.row = [d] → ((setRow (r.row.map (C.kill (hitR k p q))) p q (.own d)).map fun row' => st.wrote k p q r.mem row' (some (k1, q1))) = some st' →
          ∃ g', Rel w0 g0 st' a (w.setCell (cellAddr (g.ad k p) q) u) g' ∧ Agree w g (w.setCell (cellAddr (g.ad k p) q) u) g' (hitR k p q) (hitP k p q) ∧ g'.ad k p = g.ad k p := fun d hd hdr hs => by
        rw [Option.map_eq_some_iff] at hs
        obtain ⟨row', hset, rfl⟩ := hs
        have hM := Eff.of_mv (g := g) (k := k) (p := p) (q := q) (k1 := k1) (q1 := q1) hw rfl htag hsk
        have hO : Ow w g k1 [] q1 d := (hR.cellAt hd).1 d rfl
        refine ⟨g.mv k1 q1 k p q u, hR.moved hM hsk (fun t ht => ?_) huv.symm hu.2 rfl rfl rfl (by simp) hr hset ⟨Ow.move hO (Reloc.of_mv hw htag hsk huv.symm), hdr⟩, hM.agree, hM.ad k p (fun ⟨_, i, r, hx⟩ => by
          have := congrArg List.length hx
          simp only [List.length_append, List.length_cons] at this
          omega)⟩
        rcases ht with rfl | ⟨i, r, q', rfl⟩
        · exact ⟨_, _, rfl, Un.refl _ _⟩
        · exact ⟨_, _, rfl, .inr ⟨i, r, rfl⟩⟩
      split at hs
      · rename_i d hd
        split at hs
        · cases hs
        · rename_i hdst
          refine move d hd ?_ hs
          cases d with
          | st ds => exact absurd rfl (hdst ds)
          | _ => rfl
      · split at hs
        · rename_i hc2
          simp only [Bool.and_eq_true, Bool.not_eq_true'] at hc2
          rw [Option.map_eq_some_iff] at hs
          obtain ⟨row', hset, rfl⟩ := hs
          exact still _ row' hset (halias _ rfl hc2.1 hc2.2)
        · cases hs
    · split at hs
      · rename_i hc2
        simp only [Bool.and_eq_true, Bool.not_eq_true'] at hc2
        rw [Option.map_eq_some_iff] at hs
        obtain ⟨row', hset, rfl⟩ := hs
        exact still _ row' hset (halias _ rfl hc2.1 hc2.2)
      · cases hs
  · cases hs

end
end Go.Proofs.YtdlpmcjpbcbbjaaDoor.T
