/- The lifted walk, part e: a written cell, at the state. No condition. -/
import Derived.Test.YtdlpmcjpbcbbjaaDoorTd
namespace Go.Proofs.YtdlpmcjpbcbbjaaDoor.T
open Go
set_option linter.unusedVariables false
set_option linter.unusedSimpArgs false

section
variable {w w' : World} {g g' : Gh} {k : Nat} {p : List (Nat × Nat)} {q b0 t0 : Nat} {u : Value} {src : Tag → Prop}

theorem Eff.agree (h : Eff w g w' g' k p q b0 t0 u src) : Agree w g w' g' (hitR k p q) (hitP k p q) :=
  ⟨h.ro, fun pl hp => h.cv _ _ _ (hitR_of hp), fun pl hp => h.ad _ _ (hitP_of hp)⟩

theorem Eff.keeps (h : Eff w g w' g' k p q b0 t0 u src) {w0 : World} {g0 : Gh} (hk : Keeps w0 g0 w g) (h1 : w'.os = w.os) (h2 : w'.tape = w.tape) (h3 : w'.output = w.output) (h4 : w'.heap.size = w.heap.size) :
    Keeps w0 g0 w' g' := by
  have hsrc : ∀ t, t = Tag.ro ∨ t = Tag.outer → ¬ src t := fun t ht hs => by
    obtain ⟨k', h5, _⟩ := h.src t hs
    rcases ht with rfl | rfl <;> cases h5
  refine ⟨h1.trans hk.os, h2.trans hk.tape, h3.trans hk.output, by rw [h4]; exact hk.size, fun b hb ho => ?_, fun b hb => ?_, fun b hb ho => ?_, ?_, ?_⟩
  · obtain ⟨h5, h6⟩ := hk.block b hb ho
    rw [← h6] at ho
    refine ⟨(h.wr.other b (fun e => ?_)).trans h5, (h.o b (hsrc _ ho)).trans h6⟩
    subst e
    have hr := tagOf_root k p
    rw [← h.tag] at hr
    rcases ho with ho | ho <;> rw [ho] at hr <;> cases hr
  · rw [h4] at hb
    rw [h.o b (hsrc _ (.inr (hk.fresh b hb)))]
    exact hk.fresh b hb
  · rw [h4] at hb
    have hns : ¬ src (g.o b) := fun hs => h.so b hs (by rw [ho]; rfl)
    rw [h.o b hns] at ho
    exact hk.old b hb ho
  · refine ⟨fun q' => ?_, ?_⟩
    · rw [h.cv pinK [] q' (fun ⟨e, hu⟩ => ?_)]
      · exact hk.pin.1 q'
      · rcases hu with ⟨hp, _⟩ | ⟨i, r, hx⟩
        · have ht := h.tag
          rw [← e, ← hp, tagOf_nil] at ht
          exact hk.nobox _ ht
        · have := congrArg List.length hx
          simp at this
    · rw [h.ad pinB [] (fun ⟨_, i, r, hx⟩ => by
        have := congrArg List.length hx
        simp at this)]
      exact hk.pin.2
  · intro b hb
    by_cases hs : src (g.o b)
    · exact h.sb b hs _ hb
    · rw [h.o b hs] at hb
      exact hk.nobox b hb

/-- A cell of a root that is not the written one. -/
theorem Eff.cellC (h : Eff w g w' g' k p q b0 t0 u src) {k1 q1 : Nat} {c : C} (hne : k1 = k → ¬ Un [] q1 p q ∧ ¬ Un p q [] q1 ∧ ∀ i r, p ≠ [] ++ (q1, i) :: r)
    (hsrc : ∀ t, src t → ¬ t.within k1 [] q1) (hr : RepC w g k1 q1 c) : RepC w' g' k1 q1 (c.kill (hitR k p q)) := by
  have hcv : g'.cv k1 [] q1 = g.cv k1 [] q1 := h.cv _ _ _ (fun ⟨e, hu⟩ => (hne e).2.1 hu)
  cases c with
  | ro d =>
    have h1 : Ro w g.o d (g.cv k1 [] q1) := hr
    show Ro w' g'.o d (g'.cv k1 [] q1)
    rw [hcv]
    exact h1.mono h.ro
  | own d => exact h.other hne hsrc hr
  | ref pl =>
    have h1 : g.cv k1 [] q1 = g.cv pl.k pl.p pl.q ∧ (g.cv k1 [] q1).oneCell' = true := hr
    simp only [C.kill]
    cases hp : hitR k p q pl with
    | true => trivial
    | false =>
      show g'.cv k1 [] q1 = g'.cv pl.k pl.p pl.q ∧ (g'.cv k1 [] q1).oneCell' = true
      rw [hcv, h.cv _ _ _ (hitR_of hp)]
      exact h1
  | dead => trivial

theorem Eff.memR (h : Eff w g w' g' k p q b0 t0 u src) {k1 : Nat} {n : Nat} {A : Nat × Nat} (hA : g.ad k1 [] = A) (h1 : g.o A.1 = .box k1) (h2 : ∃ cs e, w.heap[A.1]? = some (.cells cs e (0, 0)))
    (h3 : ∀ j, j < n → w.cell? (cellAddr A j) = some (g.cv k1 [] j)) (hsrc : ¬ src (.box k1)) (hcvk : k1 = k → p ≠ [] → True) :
    g'.ad k1 [] = A ∧ g'.o A.1 = .box k1 ∧ (∃ cs e, w'.heap[A.1]? = some (.cells cs e (0, 0))) ∧ ∀ j, j < n → w'.cell? (cellAddr A j) = some (g'.cv k1 [] j) := by
  have had : g'.ad k1 [] = A := by
    rw [h.ad k1 [] (fun ⟨_, i, r, hx⟩ => by
      have := congrArg List.length hx
      simp only [List.length_append, List.length_cons, List.length_nil] at this
      omega)]
    exact hA
  refine ⟨had, by rw [h.o _ (by rw [h1]; exact hsrc)]; exact h1, ?_, fun j hj => ?_⟩
  · obtain ⟨cs, e, h2⟩ := h2
    by_cases eb : A.1 = b0
    · rw [eb] at h2
      obtain ⟨cs', _, h4⟩ := h.wr.here cs e h2
      exact ⟨cs', e, by rw [eb]; exact h4⟩
    · exact ⟨cs, e, by rw [h.wr.other _ eb]; exact h2⟩
  · by_cases ek : k1 = k ∧ p = []
    · obtain ⟨rfl, rfl⟩ := ek
      have ha := h.at_
      rw [hA] at ha
      by_cases ej : j = q
      · subst ej
        rw [ha, h.new]
        exact h.wr.new
      · rw [h.cv k1 [] j (fun ⟨_, hu⟩ => by
          rcases hu with ⟨_, hq⟩ | ⟨i, r, hx⟩
          · exact ej hq
          · cases hx), ← h3 j hj]
        simp only [cellAddr, Addr.mk.injEq, and_true] at ha
        exact h.wr.cell' _ _ (.inr (by omega))
    · rw [h.cv k1 [] j (fun ⟨e, hu⟩ => by
        rcases hu with ⟨hx, _⟩ | ⟨i, r, hx⟩
        · exact ek ⟨e, hx.symm⟩
        · have := congrArg List.length hx
          simp only [List.length_append, List.length_cons, List.length_nil] at this
          omega), ← h3 j hj]
      refine h.wr.cell' _ _ (.inl fun e => ?_)
      have ht := h.tag
      rw [← e, h1] at ht
      have hk := tagOf_root k p
      rw [← ht] at hk
      have hk' : k1 = k := by simpa [Tag.root?] using hk
      subst hk'
      rcases List.eq_nil_or_concat p with rfl | ⟨l, x, rfl⟩
      · exact ek ⟨rfl, rfl⟩
      · obtain ⟨a, b⟩ := x
        rw [List.concat_eq_append, tagOf_snoc] at ht
        cases ht

/-- A cell's content at a place: owned anywhere; anything else in a root's own row alone. -/
def RepCP (w : World) (g : Gh) (k : Nat) (p : List (Nat × Nat)) (q : Nat) : C → Prop
  | .own d => Ow w g k p q d ∧ d.row = [d]
  | c => p = [] ∧ RepC w g k q c

/-- The state behind a write: what referred to the old content is forgotten, and the cell from which the content came refers to where it lies now. -/
def St.wrote (st : St) (k : Nat) (p : List (Nat × Nat)) (q : Nat) (m : Bool) (row' : List C) (s : Option (Nat × Nat)) : St :=
  let st1 := (st.kill (hitR k p q) (hitP k p q)).setRoot k ⟨m, row'⟩
  match s with
  | none => st1
  | some (k1, q1) =>
    match st1.root k1 with
    | none => st1
    | some r1 => st1.setRoot k1 ⟨r1.mem, r1.row.set q1 (.ref ⟨k, p, q⟩)⟩

theorem St.tmps_wrote (st : St) (k : Nat) (p : List (Nat × Nat)) (q : Nat) (m : Bool) (row' : List C) (s : Option (Nat × Nat)) :
    (st.wrote k p q m row' s).tmps = st.tmps.map (TS.kill (hitR k p q) (hitP k p q)) := by
  unfold St.wrote
  cases s with
  | none => rfl
  | some s =>
    simp only
    split <;> rfl

theorem setRow_length {row : List C} {p : List (Nat × Nat)} {q : Nat} {c : C} {row' : List C} (h : setRow row p q c = some row') : row'.length = row.length := by
  cases p with
  | nil =>
    simp only [setRow] at h
    split at h
    · simp only [Option.some.injEq] at h; subst h; simp
    · cases h
  | cons x p =>
    obtain ⟨a, b⟩ := x
    cases c with
    | own d =>
      simp only [setRow] at h
      split at h
      · split at h
        · simp only [Option.map_eq_some_iff] at h
          obtain ⟨er, _, rfl⟩ := h
          simp
        · cases h
      · cases h
    | _ => cases h

/-- THE ROOT THAT WAS WRITTEN. -/
theorem Eff.here (h : Eff w g w' g' k p q b0 t0 u src) {row row' : List C} (hrow : ∀ (j : Nat) c, row[j]? = some c → RepC w g k j c) {c : C}
    (hset : setRow (row.map (C.kill (hitR k p q))) p q c = some row') (hc : RepCP w' g' k p q c) (hsrc : ∀ t q1, src t → ¬ t.within k [] q1) :
    ∀ (j : Nat) c', row'[j]? = some c' → RepC w' g' k j c' := by
  intro j c' hj
  have hold : ∀ (j : Nat) c', (row.map (C.kill (hitR k p q)))[j]? = some c' → (¬ Un [] j p q ∧ ¬ Un p q [] j ∧ ∀ i r, p ≠ [] ++ (j, i) :: r) → RepC w' g' k j c' := fun j c' hj hne => by
    rw [List.getElem?_map, Option.map_eq_some_iff] at hj
    obtain ⟨c1, h1, rfl⟩ := hj
    exact h.cellC (fun _ => hne) (fun t ht => hsrc t j ht) (hrow j c1 h1)
  cases p with
  | nil =>
    simp only [setRow] at hset
    split at hset
    · rename_i hq
      simp only [Option.some.injEq] at hset
      subst hset
      rw [List.getElem?_set] at hj
      by_cases e : q = j
      · subst e
        rw [if_pos rfl, if_pos hq, Option.some.injEq] at hj
        subst hj
        cases c with
        | own d => exact hc.1
        | _ => exact hc.2
      · rw [if_neg e] at hj
        refine hold j c' hj ⟨fun hu => ?_, fun hu => ?_, fun i r hx => by cases hx⟩
        · rcases hu with ⟨_, hq'⟩ | ⟨i, r, hx⟩
          · exact e hq'
          · cases hx
        · rcases hu with ⟨_, hq'⟩ | ⟨i, r, hx⟩
          · exact e hq'.symm
          · cases hx
    · cases hset
  | cons x p =>
    obtain ⟨q1, i1⟩ := x
    cases c with
    | own d =>
      simp only [setRow] at hset
      split at hset
      · rename_i sz ds hq1
        split at hset
        · rename_i e he
          simp only [Option.map_eq_some_iff] at hset
          obtain ⟨er, her, rfl⟩ := hset
          have h1 : RepC w g k q1 (.own (.sl sz ds)) := by
            rw [List.getElem?_map, Option.map_eq_some_iff] at hq1
            obtain ⟨c1, h1, h2⟩ := hq1
            cases c1 with
            | own d1 => rw [← h2]; exact hrow q1 _ h1
            | ref pl => simp only [C.kill] at h2; split at h2 <;> cases h2
            | _ => cases h2
          have h1' : Ow w g k [] q1 (.sl sz ds) := h1
          have heff : Eff w g w' g' k (([] ++ [(q1, i1)]) ++ p) q b0 t0 u src := by simpa using h
          have heff2 : Eff w g w' g' k ([] ++ (q1, i1) :: p) q b0 t0 u src := by simpa using h
          have hin := Eff.row p heff (h1'.row he) (by simpa using hc.1) hc.2 her
          rw [List.getElem?_set] at hj
          by_cases e1 : q1 = j
          · subst e1
            rw [if_pos rfl] at hj
            split at hj
            · simp only [Option.some.injEq] at hj
              subst hj
              exact Eff.own heff2 h1' he hc.2 her hin
            · cases hj
          · rw [if_neg e1] at hj
            refine hold j c' hj ⟨fun hu => ?_, fun hu => ?_, fun i r hx => ?_⟩
            · rcases hu with ⟨hx, _⟩ | ⟨i, r, hx⟩
              · cases hx
              · simp only [List.nil_append, List.cons.injEq, Prod.mk.injEq] at hx
                exact e1 hx.1.1
            · rcases hu with ⟨hx, _⟩ | ⟨i, r, hx⟩
              · cases hx
              · cases hx
            · simp only [List.nil_append, List.cons.injEq, Prod.mk.injEq] at hx
              exact e1 hx.1.1
        · cases hset
      · cases hset
    | _ => cases hset

theorem St.root_wrote_none (st : St) (k : Nat) (p : List (Nat × Nat)) (q : Nat) (m : Bool) (row' : List C) (k' : Nat) :
    (st.wrote k p q m row' none).root k' = if k' = k then some ⟨m, row'⟩ else (st.root k').map (Rt.kill (hitR k p q)) := by
  simp only [St.wrote, St.root_setRoot, St.root_kill]

theorem St.root_wrote_some (st : St) (k : Nat) (p : List (Nat × Nat)) (q : Nat) (m : Bool) (row' : List C) (k1 q1 k' : Nat) (hne : k1 ≠ k) :
    (st.wrote k p q m row' (some (k1, q1))).root k' = if k' = k then some ⟨m, row'⟩ else
      if k' = k1 then (st.root k1).map (fun r => ⟨r.mem, (r.row.map (C.kill (hitR k p q))).set q1 (.ref ⟨k, p, q⟩)⟩) else (st.root k').map (Rt.kill (hitR k p q)) := by
  have h1 : ((st.kill (hitR k p q) (hitP k p q)).setRoot k ⟨m, row'⟩).root k1 = (st.root k1).map (Rt.kill (hitR k p q)) := by
    rw [St.root_setRoot, if_neg hne, St.root_kill]
  simp only [St.wrote, h1]
  cases hr : st.root k1 with
  | none =>
    simp only [Option.map_none]
    rw [St.root_setRoot]
    by_cases e : k' = k
    · simp [e]
    · rw [if_neg e, if_neg e, St.root_kill]
      by_cases e1 : k' = k1
      · subst e1; simp [hr]
      · simp [e1]
  | some r1 =>
    simp only [Option.map_some]
    rw [St.root_setRoot, St.root_setRoot]
    by_cases e : k' = k
    · have : k' ≠ k1 := fun h => hne (h ▸ e)
      simp [e, this]
      intro h; exact absurd h.symm hne
    · by_cases e1 : k' = k1
      · subst e1; simp [e, Rt.kill]
      · simp [e, e1, St.root_kill]

/-- THE WRITE AT THE STATE, where nothing moves. -/
theorem Rel.write {w0 : World} {g0 : Gh} {st : St} {a : Act} (hR : Rel w0 g0 st a w g) (h : Eff w g w' g' k p q b0 t0 u src) (hno : ∀ t, ¬ src t)
    (h1 : w'.os = w.os) (h2 : w'.tape = w.tape) (h3 : w'.output = w.output) (h4 : w'.heap.size = w.heap.size)
    {r : Rt} (hk : st.root k = some r) {c : C} {row' : List C} (hset : setRow (r.row.map (C.kill (hitR k p q))) p q c = some row') (hc : RepCP w' g' k p q c) :
    Rel w0 g0 (st.wrote k p q r.mem row' none) a w' g' := by
  refine hR.change h.agree (St.tmps_wrote ..) ⟨fun k' r' hk' j c' hj => ?_, fun k' r' hk' hm => ?_⟩ (h.keeps hR.ks h1 h2 h3 h4)
  · rw [St.root_wrote_none] at hk'
    split at hk'
    · rename_i e
      simp only [Option.some.injEq] at hk'
      subst hk'; subst e
      exact h.here (hR.rt.cell k' r hk) hset hc (fun t _ ht => absurd ht (hno t)) j c' hj
    · rename_i e
      rw [Option.map_eq_some_iff] at hk'
      obtain ⟨r1, h5, rfl⟩ := hk'
      simp only [Rt.kill, List.getElem?_map, Option.map_eq_some_iff] at hj
      obtain ⟨c1, h6, rfl⟩ := hj
      exact h.cellC (fun e' => absurd e' e) (fun t ht => absurd ht (hno t)) (hR.rt.cell k' r1 h5 j c1 h6)
  · rw [St.root_wrote_none] at hk'
    have key : ∀ r1, st.root k' = some r1 → r1.mem = true → ∀ n, n = r1.row.length → _ := fun r1 h5 h6 n hn =>
      h.memR (k1 := k') (n := n) rfl (hR.rt.mem k' r1 h5 h6).1 (hR.rt.mem k' r1 h5 h6).2.1 (fun j hj => (hR.rt.mem k' r1 h5 h6).2.2 j (by omega)) (hno _) (fun _ _ => trivial)
    split at hk'
    · rename_i e
      simp only [Option.some.injEq] at hk'
      subst hk'; subst e
      have := key r hk hm _ rfl
      rw [this.1]
      exact ⟨this.2.1, this.2.2.1, fun j hj => this.2.2.2 j (by rw [setRow_length hset, List.length_map] at hj; exact hj)⟩
    · rename_i e
      rw [Option.map_eq_some_iff] at hk'
      obtain ⟨r1, h5, rfl⟩ := hk'
      have := key r1 h5 hm _ rfl
      rw [this.1]
      exact ⟨this.2.1, this.2.2.1, fun j hj => this.2.2.2 j (by simpa [Rt.kill] using hj)⟩

/-- THE WRITE AT THE STATE, where the content of a root's cell moves to the written place. -/
theorem Rel.moved {w0 : World} {g0 : Gh} {st : St} {a : Act} (hR : Rel w0 g0 st a w g) (h : Eff w g w' g' k p q b0 t0 u src) {k1 q1 : Nat} (hne : k1 ≠ k)
    (hs : ∀ t, src t → t.within k1 [] q1) (hu : g.cv k1 [] q1 = u) (hu1 : u.oneCell' = true)
    (h1 : w'.os = w.os) (h2 : w'.tape = w.tape) (h3 : w'.output = w.output) (h4 : w'.heap.size = w.heap.size)
    {r : Rt} (hk : st.root k = some r) {c : C} {row' : List C} (hset : setRow (r.row.map (C.kill (hitR k p q))) p q c = some row') (hc : RepCP w' g' k p q c) :
    Rel w0 g0 (st.wrote k p q r.mem row' (some (k1, q1))) a w' g' := by
  have hbox : ∀ k', ¬ src (.box k') := fun k' ht => by
    obtain ⟨p', q', hx, _⟩ := hs _ ht
    cases hx
  have hother : ∀ k' q', (k' = k1 → q' ≠ q1) → ∀ t, src t → ¬ t.within k' [] q' := fun k' q' hn t ht hw => by
    obtain ⟨p1, q2, rfl, hu1⟩ := hs t ht
    obtain ⟨p2, q3, hx, hu2⟩ := hw
    simp only [Tag.lies.injEq] at hx
    obtain ⟨rfl, rfl, rfl⟩ := hx
    rcases Un.both hu1 hu2 with hx | hx
    · rcases hx with ⟨_, hx⟩ | ⟨i, r, hx⟩
      · exact hn rfl hx
      · cases hx
    · rcases hx with ⟨_, hx⟩ | ⟨i, r, hx⟩
      · exact hn rfl hx.symm
      · cases hx
  refine hR.change h.agree (St.tmps_wrote ..) ⟨fun k' r' hk' j c' hj => ?_, fun k' r' hk' hm => ?_⟩ (h.keeps hR.ks h1 h2 h3 h4)
  · rw [St.root_wrote_some _ _ _ _ _ _ _ _ _ hne] at hk'
    split at hk'
    · rename_i e
      simp only [Option.some.injEq] at hk'
      subst hk'; subst e
      exact h.here (hR.rt.cell k' r hk) hset hc (fun t q' ht => hother k' q' (fun e => absurd e.symm hne) t ht) j c' hj
    · rename_i e
      split at hk'
      · rename_i e1
        subst e1
        rw [Option.map_eq_some_iff] at hk'
        obtain ⟨r1, h5, rfl⟩ := hk'
        simp only [List.getElem?_set] at hj
        by_cases ej : q1 = j
        · subst ej
          rw [if_pos rfl] at hj
          split at hj
          · simp only [Option.some.injEq] at hj
            subst hj
            show g'.cv k' [] q1 = g'.cv k p q ∧ (g'.cv k' [] q1).oneCell' = true
            rw [h.cv k' [] q1 (fun ⟨e', _⟩ => e e'), h.new, hu]
            exact ⟨rfl, hu1⟩
          · cases hj
        · rw [if_neg ej, List.getElem?_map, Option.map_eq_some_iff] at hj
          obtain ⟨c1, h6, rfl⟩ := hj
          exact h.cellC (fun e' => absurd e' e) (hother k' j (fun _ => fun hx => ej hx.symm)) (hR.rt.cell k' r1 h5 j c1 h6)
      · rename_i e1
        rw [Option.map_eq_some_iff] at hk'
        obtain ⟨r1, h5, rfl⟩ := hk'
        simp only [Rt.kill, List.getElem?_map, Option.map_eq_some_iff] at hj
        obtain ⟨c1, h6, rfl⟩ := hj
        exact h.cellC (fun e' => absurd e' e) (hother k' j (fun hx => absurd hx e1)) (hR.rt.cell k' r1 h5 j c1 h6)
  · rw [St.root_wrote_some _ _ _ _ _ _ _ _ _ hne] at hk'
    have key : ∀ r1, st.root k' = some r1 → r1.mem = true → ∀ n, n = r1.row.length → _ := fun r1 h5 h6 n hn =>
      h.memR (k1 := k') (n := n) rfl (hR.rt.mem k' r1 h5 h6).1 (hR.rt.mem k' r1 h5 h6).2.1 (fun j hj => (hR.rt.mem k' r1 h5 h6).2.2 j (by omega)) (hbox _) (fun _ _ => trivial)
    split at hk'
    · rename_i e
      simp only [Option.some.injEq] at hk'
      subst hk'; subst e
      have := key r hk hm _ rfl
      rw [this.1]
      exact ⟨this.2.1, this.2.2.1, fun j hj => this.2.2.2 j (by rw [setRow_length hset, List.length_map] at hj; exact hj)⟩
    · rename_i e
      split at hk'
      · rename_i e1
        subst e1
        rw [Option.map_eq_some_iff] at hk'
        obtain ⟨r1, h5, rfl⟩ := hk'
        have := key r1 h5 hm _ rfl
        rw [this.1]
        exact ⟨this.2.1, this.2.2.1, fun j hj => this.2.2.2 j (by simpa using hj)⟩
      · rename_i e1
        rw [Option.map_eq_some_iff] at hk'
        obtain ⟨r1, h5, rfl⟩ := hk'
        have := key r1 h5 hm _ rfl
        rw [this.1]
        exact ⟨this.2.1, this.2.2.1, fun j hj => this.2.2.2 j (by simpa [Rt.kill] using hj)⟩
end

end Go.Proofs.YtdlpmcjpbcbbjaaDoor.T
