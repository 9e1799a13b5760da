/- The lifted walk, part d: the state of a walk, and what a new root and a written cell make of it. No condition. -/
import Derived.Test.YtdlpmcjpbcbbjaaDoorTc
namespace Go.Proofs.YtdlpmcjpbcbbjaaDoor.T
open Go
set_option linter.unusedVariables false
set_option linter.unusedSimpArgs false

def C.kill (pr : Pl → Bool) : C → C
  | .ref pl => if pr pl then .dead else .ref pl
  | c => c
def TV.kill (pr pp : Pl → Bool) : TV → TV
  | .c x => .c (x.kill pr)
  | .agg cs => .agg (cs.map (C.kill pr))
  | .ptr pl => if pp pl then .dead else .ptr pl
  | .tab pls => if pls.any pp then .dead else .tab pls
  | .ptab pls => if pls.any pp then .dead else .ptab pls
  | t => t
def TS.kill (pr pp : Pl → Bool) : TS → TS
  | .one t => .one (t.kill pr pp)
  | .tup ts => .tup (ts.map (TV.kill pr pp))
  | .fn f ts => .fn f (ts.map (TV.kill pr pp))
def Rt.kill (pr : Pl → Bool) (r : Rt) : Rt := { r with row := r.row.map (C.kill pr) }
def St.kill (pr pp : Pl → Bool) (st : St) : St := ⟨st.tmps.map (TS.kill pr pp), st.roots.map fun x => (x.1, x.2.kill pr)⟩
def St.setRoot (st : St) (k : Nat) (r : Rt) : St := { st with roots := (k, r) :: st.roots.filter fun x => x.1 != k }

theorem find_map (f : Rt → Rt) (k : Nat) : ∀ l : List (Nat × Rt), ((l.map fun x => (x.1, f x.2)).find? fun x => x.1 == k).map (·.2) = ((l.find? fun x => x.1 == k).map (·.2)).map f
  | [] => rfl
  | x :: l => by
    simp only [List.map_cons, List.find?_cons]
    split
    · rfl
    · exact find_map f k l

theorem St.root_kill (pr pp : Pl → Bool) (st : St) (k : Nat) : (st.kill pr pp).root k = (st.root k).map (Rt.kill pr) := find_map _ k _

theorem find_filter (k k' : Nat) (h : k' ≠ k) : ∀ l : List (Nat × Rt), ((l.filter fun x => x.1 != k).find? fun x => x.1 == k') = l.find? fun x => x.1 == k'
  | [] => rfl
  | x :: l => by
    simp only [List.filter_cons, List.find?_cons]
    by_cases e : x.1 = k'
    · have h1 : (x.1 != k) = true := by simp [e, h]
      have h2 : (x.1 == k') = true := by simp [e]
      simp [h1, h2]
    · have h2 : (x.1 == k') = false := by simp [e]
      rw [h2]
      split
      · simp only [List.find?_cons, h2]
        exact find_filter k k' h l
      · exact find_filter k k' h l

theorem St.root_setRoot (st : St) (k : Nat) (r : Rt) (k' : Nat) : (st.setRoot k r).root k' = if k' = k then some r else st.root k' := by
  unfold St.setRoot St.root
  by_cases h : k' = k
  · subst h
    simp
  · rw [if_neg h]
    have : ((k, r).1 == k') = false := by simp; exact fun e => h e.symm
    simp only [List.find?_cons, this]
    rw [find_filter k k' h]

/-- What values need to stay right. -/
structure Agree (w : World) (g : Gh) (w' : World) (g' : Gh) (pr pp : Pl → Bool) : Prop where
  ro : ∀ b, g.o b = .ro → g'.o b = .ro ∧ w'.heap[b]? = w.heap[b]?
  cv : ∀ pl, pr pl = false → g'.cv pl.k pl.p pl.q = g.cv pl.k pl.p pl.q
  ad : ∀ pl, pp pl = false → g'.ad pl.k pl.p = g.ad pl.k pl.p

section
variable {w w' : World} {g g' : Gh} {pr pp : Pl → Bool}

theorem RepV.kill (h : Agree w g w' g' pr pp) {c : C} {u : Value} (hr : RepV w g c u) : RepV w' g' (c.kill pr) u := by
  cases c with
  | ro d => exact Ro.mono h.ro hr
  | own d => exact hr
  | ref pl =>
    have h1 : u = g.cv pl.k pl.p pl.q ∧ u.oneCell' = true := hr
    simp only [C.kill]
    cases hp : pr pl with
    | true => trivial
    | false => show u = g'.cv pl.k pl.p pl.q ∧ u.oneCell' = true; rw [h.cv pl hp]; exact h1
  | dead => trivial

theorem RepT.kill (h : Agree w g w' g' pr pp) {t : TV} {u : Value} (hr : RepT w g t u) : RepT w' g' (t.kill pr pp) u := by
  cases hr with
  | c c u hv => exact .c _ u (hv.kill h)
  | agg cs us hs hv =>
    refine .agg _ us (by simpa using hs) fun j c u h1 h2 => ?_
    rw [List.getElem?_map, Option.map_eq_some_iff] at h1
    obtain ⟨c', h1, rfl⟩ := h1
    exact (hv j c' u h1 h2).kill h
  | ptr pl =>
    simp only [TV.kill]
    cases hp : pp pl with
    | true => exact .dead _
    | false => have := RepT.ptr (w := w') (g := g') pl; rw [h.ad pl hp] at this; exact this
  | cptr ds b off us hro hcell =>
    exact .cptr ds b off us (h.ro b hro).1 fun j d hj => ⟨by rw [cell_eq (h.ro b hro).2]; exact (hcell j d hj).1, (hcell j d hj).2.mono h.ro⟩
  | tab pls b off hro hcell =>
    simp only [TV.kill]
    cases hp : pls.any pp with
    | true => exact .dead _
    | false =>
      rw [List.any_eq_false] at hp
      exact .tab pls b off (h.ro b hro).1 fun j pl hj => by rw [cell_eq (h.ro b hro).2, hcell j pl hj, h.ad pl (by simpa using hp pl (List.mem_of_getElem? hj))]
  | ptab pls b off hro hcell =>
    simp only [TV.kill]
    cases hp : pls.any pp with
    | true => exact .dead _
    | false =>
      rw [List.any_eq_false] at hp
      exact .ptab pls b off (h.ro b hro).1 fun j pl hj => by rw [cell_eq (h.ro b hro).2, hcell j pl hj, h.ad pl (by simpa using hp pl (List.mem_of_getElem? hj))]
  | dead u => exact .dead u

theorem RepS.kill (h : Agree w g w' g' pr pp) {t : TS} {u : Value} (hr : RepS w g t u) : RepS w' g' (t.kill pr pp) u := by
  cases hr with
  | one t u hv => exact .one _ u (hv.kill h)
  | tup ts us hs hv =>
    refine .tup _ us (by simpa using hs) fun j t u h1 h2 => ?_
    rw [List.getElem?_map, Option.map_eq_some_iff] at h1
    obtain ⟨t', h1, rfl⟩ := h1
    exact (hv j t' u h1 h2).kill h
  | fn f ts us hs hv =>
    refine .fn f _ us (by simpa using hs) fun j t u h1 h2 => ?_
    rw [List.getElem?_map, Option.map_eq_some_iff] at h1
    obtain ⟨t', h1, rfl⟩ := h1
    exact (hv j t' u h1 h2).kill h

/-- The tables of a step: values killed as said, roots anew. -/
theorem Rel.change {w0 : World} {g0 : Gh} {st st' : St} {a : Act} (h : Rel w0 g0 st a w g) (ha : Agree w g w' g' pr pp) (ht : st'.tmps = st.tmps.map (TS.kill pr pp))
    (hr : RepR w' g' st'.root) (hk : Keeps w0 g0 w' g') : Rel w0 g0 st' a w' g' := by
  refine ⟨fun i tv hi => ?_, by rw [ht, List.length_map]; exact h.sz, h.df, hr, hk⟩
  rw [ht, List.getElem?_map, Option.map_eq_some_iff] at hi
  obtain ⟨t, h1, rfl⟩ := hi
  exact (h.tm i t h1).kill ha

/-- A slot is written. -/
def St.put (st : St) (dst : Option Tmp) (t : TS) : St :=
  match dst with
  | some d => { st with tmps := st.tmps.set d t }
  | none => st

theorem St.root_put (st : St) (dst : Option Tmp) (t : TS) (k : Nat) : (st.put dst t).root k = st.root k := by cases dst <;> rfl

theorem Rel.put {w0 : World} {g0 : Gh} {st : St} {a : Act} (h : Rel w0 g0 st a w g) {t : TS} {u : Value} (hu : RepS w g t u) (dst : Option Tmp) : Rel w0 g0 (st.put dst t) (a.put dst u) w g := by
  cases dst with
  | none => exact h
  | some d =>
    refine ⟨fun i tv hi => ?_, by simp [St.put, Act.put, h.sz], h.df, ⟨h.rt.cell, h.rt.mem⟩, h.ks⟩
    simp only [St.put, List.getElem?_set] at hi
    simp only [Act.put, Array.getD_eq_getD_getElem?, Array.getElem?_setIfInBounds]
    by_cases e : d = i
    · subst e
      rw [if_pos rfl] at hi
      split at hi
      · rename_i hlt
        simp only [Option.some.injEq] at hi
        subst hi
        have : d < a.tmps.size := by rw [h.sz]; exact hlt
        simp [this]
        exact hu
      · cases hi
    · rw [if_neg e] at hi ⊢
      rw [← Array.getD_eq_getD_getElem?]
      exact h.tm i tv hi

/-- A new root: whatever referred to an elder one of its name is forgotten. -/
def St.fresh (st : St) (k : Nat) (r : Rt) : St := (st.kill (fun pl => pl.k == k) (fun pl => pl.k == k)).setRoot k r

theorem RepC.kill {k k' q : Nat} {c : C} (h : Same w g w' g' (· ≠ k)) (hk : k' ≠ k) (hr : RepC w g k' q c) : RepC w' g' k' q (c.kill fun pl => pl.k == k) := by
  cases c with
  | ro d => exact hr.mono h hk trivial
  | own d => exact hr.mono h hk trivial
  | ref pl =>
    simp only [C.kill]
    by_cases e : pl.k = k
    · rw [if_pos (by simpa using e)]
      trivial
    · rw [if_neg (by simpa using e)]
      exact hr.mono h hk e
  | dead => trivial

theorem Rel.grow {w0 : World} {g0 : Gh} {st : St} {a : Act} {k : Nat} {r : Rt} (h : Rel w0 g0 st a w g) (hs : Same w g w' g' (· ≠ k)) (hk : Keeps w0 g0 w' g')
    (hc : ∀ (q : Nat) c, r.row[q]? = some c → RepC w' g' k q c)
    (hm : r.mem = true → g'.o (g'.ad k []).1 = .box k ∧ (∃ cs e, w'.heap[(g'.ad k []).1]? = some (.cells cs e (0, 0))) ∧ ∀ q, q < r.row.length → w'.cell? (cellAddr (g'.ad k []) q) = some (g'.cv k [] q)) :
    Rel w0 g0 (st.fresh k r) a w' g' := by
  refine h.change (pr := fun pl => pl.k == k) (pp := fun pl => pl.k == k) ⟨hs.ro, fun pl hp => ?_, fun pl hp => ?_⟩ rfl ⟨fun k' r' hk' q c hq => ?_, fun k' r' hk' hm' => ?_⟩ hk
  · rw [hs.cv pl.k (by simpa using hp)]
  · rw [hs.ad pl.k (by simpa using hp)]
  · rw [St.fresh, St.root_setRoot] at hk'
    split at hk'
    · rename_i e
      simp only [Option.some.injEq] at hk'
      subst hk'; subst e
      exact hc q c hq
    · rename_i e
      rw [St.root_kill, Option.map_eq_some_iff] at hk'
      obtain ⟨r1, h1, rfl⟩ := hk'
      simp only [Rt.kill, List.getElem?_map, Option.map_eq_some_iff] at hq
      obtain ⟨c1, h2, rfl⟩ := hq
      exact (h.rt.cell k' r1 h1 q c1 h2).kill hs e
  · rw [St.fresh, St.root_setRoot] at hk'
    split at hk'
    · rename_i e
      simp only [Option.some.injEq] at hk'
      subst hk'; subst e
      exact hm hm'
    · rename_i e
      rw [St.root_kill, Option.map_eq_some_iff] at hk'
      obtain ⟨r1, h1, rfl⟩ := hk'
      obtain ⟨a1, ⟨cs, ty, a2⟩, a3⟩ := h.rt.mem k' r1 h1 hm'
      have hs' := hs.own k' e (g.ad k' []).1 (by rw [a1]; rfl)
      rw [hs.ad k' e, hs.cv k' e]
      refine ⟨by rw [hs'.1]; exact a1, ⟨cs, ty, by rw [hs'.2]; exact a2⟩, fun q hq => ?_⟩
      rw [cellAddr, cell_eq hs'.2]
      exact a3 q (by simpa [Rt.kill] using hq)
end

/-- A cell's way by its slices' cells alone: what is told of a place without its elements' numbers. -/
def shapeOf (p : List (Nat × Nat)) (q : Nat) : List Nat := p.map (·.1) ++ [q]
def hitR (k : Nat) (p : List (Nat × Nat)) (q : Nat) (pl : Pl) : Bool := pl.k == k && (shapeOf p q).isPrefixOf (shapeOf pl.p pl.q)
def hitP (k : Nat) (p : List (Nat × Nat)) (q : Nat) (pl : Pl) : Bool := pl.k == k && (shapeOf p q).isPrefixOf (pl.p.map (·.1))

theorem hitR_of {k : Nat} {p : List (Nat × Nat)} {q : Nat} {pl : Pl} (h : hitR k p q pl = false) : ¬ (pl.k = k ∧ Un p q pl.p pl.q) := by
  rintro ⟨rfl, hu⟩
  simp only [hitR, BEq.rfl, Bool.true_and] at h
  have : (shapeOf p q).isPrefixOf (shapeOf pl.p pl.q) = true := by
    rw [List.isPrefixOf_iff_prefix]
    rcases hu with ⟨h1, h2⟩ | ⟨i, r, h1⟩
    · rw [h1, h2]
      exact List.prefix_refl _
    · rw [h1]
      refine ⟨r.map (·.1) ++ [pl.q], ?_⟩
      simp [shapeOf]
  rw [this] at h
  cases h

theorem hitP_of {k : Nat} {p : List (Nat × Nat)} {q : Nat} {pl : Pl} (h : hitP k p q pl = false) : ¬ (pl.k = k ∧ ∃ i r, pl.p = p ++ (q, i) :: r) := by
  rintro ⟨rfl, i, r, h1⟩
  simp only [hitP, BEq.rfl, Bool.true_and] at h
  have : (shapeOf p q).isPrefixOf (pl.p.map (·.1)) = true := by
    rw [List.isPrefixOf_iff_prefix, h1]
    refine ⟨r.map (·.1), ?_⟩
    simp [shapeOf]
  rw [this] at h
  cases h

/-- The root's row with one cell anew. -/
def setRow : List C → List (Nat × Nat) → Nat → C → Option (List C)
  | row, [], q, c => if q < row.length then some (row.set q c) else none
  | row, (q1, i) :: r, q, .own d =>
    match row[q1]? with
    | some (.own (.sl sz ds)) =>
      match ds[i]? with
      | some e => (setAt e.row r q d).map fun er => row.set q1 (.own (.sl sz (ds.set i (e.reRow er))))
      | none => none
    | _ => none
  | _, _ :: _, _, _ => none

end Go.Proofs.YtdlpmcjpbcbbjaaDoor.T
