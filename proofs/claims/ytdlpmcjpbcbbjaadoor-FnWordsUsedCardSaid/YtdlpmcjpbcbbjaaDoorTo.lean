/- The lifted walk, part o: list literals and append as operations. No condition. -/
import Derived.Test.YtdlpmcjpbcbbjaaDoorTn
import Derived.Great.FillDense
namespace Go.Proofs.YtdlpmcjpbcbbjaaDoor.T
open Go
set_option linter.unusedVariables false
set_option linter.unusedSimpArgs false

section
variable {P : Program} {w0 : World} {g0 : Gh} {st : St} {a : Act} {w w' : World} {g g' : Gh}
variable {o : Oper} {Q : St → Prop} {x y : Operand} {t e : TypeId}

/-- An element as a new list bears it: plain cells are known, the others come behind. -/
def cellD : C → D
  | .ro (.v x) => .v x
  | _ => .hole
def elD : TV → D
  | .c x => cellD x
  | .agg cs => .st (cs.map cellD)
  | _ => .hole

theorem cellD_made {c : C} {u : Value} (h : RepV w g c u) : MadeC (cellD c) u := by
  cases c with
  | ro d =>
    cases d with
    | v x =>
      have h3 : Ro w g.o (.v x) u := h
      cases h3 with
      | v _ hp => exact ⟨rfl, hp⟩
    | _ => trivial
  | _ => trivial

theorem setCell_self {A : Addr} {u : Value} (h : w.cell? A = some u) : w.setCell A u = w := by
  unfold World.cell? at h
  split at h
  · rename_i c e f hb
    have hs : A.spot.isSome = false := by
      cases hs : A.spot.isSome with
      | false => rfl
      | true => simp [hs] at h
    simp only [hs, Bool.false_eq_true, if_false] at h
    unfold World.setCell
    congr 1
    apply Array.ext
    · simp
    · intro i h1 h2
      rw [Array.getElem_modify]
      split
      · rename_i e1
        subst e1
        have h3 : w.heap[A.block] = .cells c e f := by
          rw [Array.getElem?_eq_getElem h2] at hb
          simpa using hb
        simp only [h3, hs, Bool.false_eq_true, if_false]
        congr 1
        apply Array.ext
        · simp
        · intro j h4 h5
          rw [Array.getElem_setIfInBounds]
          split
          · rename_i e2
            subst e2
            rw [Array.getElem?_eq_getElem h5] at h
            simpa using h.symm
          · rfl
      · rfl
  · cases h

/-- What a new list's only element refers to becomes its own. -/
def St.adopt (k : Nat) : List C → (C → C) → Nat → St → Option St
  | [], _, _, st => some st
  | c :: cs, f, j, st =>
    match f c with
    | .ro (.v _) => St.adopt k cs f (j + 1) st
    | .ref s =>
      match st.cellAt ⟨k, [(0, 0)], j⟩ with
      | some _ =>
        match st.store1 ⟨k, [(0, 0)], j⟩ (.ref s) with
        | some st' => St.adopt k cs (fun c => (f c).kill (hitR k [(0, 0)] j)) (j + 1) st'
        | none => none
      | none => none
    | _ => none

theorem hitR_sib {k j j' : Nat} (h : j ≠ j') : hitR k [(0, 0)] j ⟨k, [(0, 0)], j'⟩ = false := by
  simp [hitR, shapeOf, List.isPrefixOf, h]

theorem Rel.adopt {k : Nat} : ∀ {cs : List C} {f : C → C} {j : Nat} {st st' : St} {w : World} {g : Gh} (hR : Rel w0 g0 st a w g), St.adopt k cs f j st = some st' →
    (∀ (i : Nat) c, cs[i]? = some c → RepV w g (f c) (g.cv k [(0, 0)] (j + i))) → ∃ g', Rel w0 g0 st' a w g' ∧ g'.cv k [] = g.cv k []
  | [], f, j, st, st', w, g, hR, hs, _ => by
    simp only [St.adopt, Option.some.injEq] at hs
    subst hs
    exact ⟨g, hR, rfl⟩
  | c :: cs, f, j, st, st', w, g, hR, hs, hv => by
    simp only [St.adopt] at hs
    split at hs
    · exact Rel.adopt hR hs fun i c' hi => by
        have := hv (i + 1) c' (by simpa using hi)
        rw [show j + 1 + i = j + (i + 1) by omega]
        exact this
    · rename_i s hfs
      split at hs
      · rename_i c0 hc0
        split at hs
        · rename_i st1 hs1
          have hv0 := hv 0 c rfl
          rw [hfs, Nat.add_zero] at hv0
          have hcell := (hR.cellAt hc0).2.2.1 rfl
          obtain ⟨g1, hR1, hA1, had⟩ := hR.store1 hc0 rfl hs1 hv0
          rw [setCell_self hcell] at hR1 hA1
          obtain ⟨g2, hR2, hcv2⟩ := Rel.adopt hR1 hs fun i c' hi => by
            have h1 := (hv (i + 1) c' (by simpa using hi)).kill hA1
            rw [show j + 1 + i = j + (i + 1) by omega, hA1.cv ⟨k, [(0, 0)], j + (i + 1)⟩ (show hitR k [(0, 0)] j ⟨k, [(0, 0)], j + (i + 1)⟩ = false from hitR_sib (j := j) (j' := j + (i + 1)) (by omega))]
            exact h1
          refine ⟨g2, hR2, hcv2.trans (funext fun q => ?_)⟩
          exact hA1.cv ⟨k, [], q⟩ (by simp [hitR, shapeOf, List.isPrefixOf])
        · cases hs
      · cases hs
    · cases hs

/-- The cells of a value. -/
def cellsV : TV → List C
  | .c x => [x]
  | .agg cs => cs
  | _ => []

theorem RepT.cells {tv : TV} {u : Value} (h : RepT w g tv u) (hk : ∀ c ∈ cellsV tv, c ≠ .dead) (hne : cellsV tv ≠ [] ∨ ∃ cs, tv = .agg cs) : u.cells.size = (cellsV tv).length ∧
    (∀ (j : Nat) c x, (cellsV tv)[j]? = some c → u.cells[j]? = some x → RepV w g c x) := by
  cases h with
  | c c u hv =>
    have h1 := hv.one (hk c (by simp [cellsV]))
    rw [cells_one h1]
    refine ⟨rfl, fun j c' x hj hx => ?_⟩
    cases j with
    | zero =>
      simp only [cellsV, List.getElem?_cons_zero, Option.some.injEq] at hj
      subst hj
      simp at hx
      subst hx
      exact hv
    | succ j => simp [cellsV] at hj
  | agg cs us hs hv => exact ⟨hs, fun j c x hj hx => hv j c x hj hx⟩
  | _ => rcases hne with h | ⟨cs, h⟩ <;> simp [cellsV] at h

theorem elD_row (tv : TV) (h : cellsV tv ≠ [] ∨ ∃ cs, tv = .agg cs) : (elD tv).row = (cellsV tv).map cellD := by
  cases tv with
  | c x =>
    cases x with
    | ro d => cases d <;> rfl
    | _ => rfl
  | agg cs => rfl
  | _ => rcases h with h | ⟨cs, h⟩ <;> simp [cellsV] at h

/-- Several operands that are values. -/
def vals (z : Nat) (st : St) : List Operand → Option (List TV)
  | [] => some []
  | x :: l => match opd z st x, vals z st l with | some (.one t), some ts => some (t :: ts) | _, _ => none

theorem Rel.vals (hR : Rel w0 g0 st a w g) {z : Nat} : ∀ {l : List Operand} {ts : List TV}, T.vals z st l = some ts → ts.length = l.length ∧ ∀ (i : Nat) t u, ts[i]? = some t → (l.map a.eval)[i]? = some u → RepT w g t u
  | [], ts, h => by
    simp only [T.vals, Option.some.injEq] at h
    subst h
    exact ⟨rfl, fun i t u hi => by simp at hi⟩
  | x :: l, ts, h => by
    simp only [T.vals] at h
    split at h
    · rename_i t1 ts1 h1 h2
      simp only [Option.some.injEq] at h
      subst h
      have ih := Rel.vals hR h2
      refine ⟨by simp [ih.1], fun i t u hi hu => ?_⟩
      cases i with
      | zero =>
        simp only [List.getElem?_cons_zero, Option.some.injEq, List.map_cons] at hi hu
        subst hi; subst hu
        have := hR.opd h1
        generalize a.eval x = u at this
        cases this with
        | one _ _ h3 => exact h3
      | succ i => exact ih.2 i t u (by simpa using hi) (by simpa using hu)
    · cases h

def aliveV (sz : Nat) (tv : TV) : Bool := (cellsV tv).length == sz && (cellsV tv).all (fun c => match c with | .dead => false | _ => true)

/-- A LIST LITERAL, its elements' cells as they come. -/
theorem Rel.built (hR : Rel w0 g0 st a w g) {n : Nat} {parts : Array (Nat × Operand)} (ho : o.op = .buildSlice t n parts) {xs : List Operand} (hp : parts.toList = (xs.zipIdx 0).map fun x => (x.2, x.1)) (hn : xs.length = n) (k : Nat) (hkp : k < 1000000)
    {z : Nat} {tvs : List TV} (hx : T.vals z st xs = some tvs) (hu : P.underlying t = some (.slice e)) {sz : Nat} (hs : sizeT P e = some sz) {zv : Value} (hz : (P.info? e).bind (·.zero) = some zv)
    (hal : tvs.all (aliveV sz) = true) (hsz : 0 < sz) (hsz2 : n * sz ≤ 16777216) :
    ∃ cells g', (execOp a.eval o).run P w = .ok (.value (.slice (some ⟨w.heap.size, 0, none⟩) n n)) (w.alloc (.cells cells e)) ∧
      Rel w0 g0 (st.renew [k] k ⟨false, [.own (.sl sz (tvs.map elD))]⟩) a (w.alloc (.cells cells e)) g' ∧ g'.cv k [] 0 = .slice (some ⟨w.heap.size, 0, none⟩) n n ∧ Same w g (w.alloc (.cells cells e)) g' (· ≠ k) ∧
      ∀ (i : Nat) tv, tvs[i]? = some tv → ∀ (j : Nat) c, (cellsV tv)[j]? = some c → RepV w g c (g'.cv k [(0, i)] j) := by
  have hv := hR.vals hx
  have hal' : ∀ tv ∈ tvs, (cellsV tv).length = sz ∧ ∀ c ∈ cellsV tv, c ≠ .dead := fun tv htv => by
    have := List.all_eq_true.1 hal tv htv
    simp only [aliveV, Bool.and_eq_true, beq_iff_eq] at this
    refine ⟨this.1, fun c hc e => ?_⟩
    have := List.all_eq_true.1 this.2 c hc
    subst e
    cases this
  have hcl : ∀ (i : Nat) tv u, tvs[i]? = some tv → (xs.map a.eval)[i]? = some u → u.cells.size = sz ∧ ∀ (j : Nat) c x, (cellsV tv)[j]? = some c → u.cells[j]? = some x → RepV w g c x := fun i tv u hi hu => by
    obtain ⟨h1, h2⟩ := hal' tv (List.mem_of_getElem? hi)
    have := (hv.2 i tv u hi hu).cells h2 (.inl (fun e => by rw [e] at h1; simp at h1; omega))
    rw [h1] at this
    exact this
  have hvs : ∀ u ∈ xs.map a.eval, u.cells.size = sz := fun u hu => by
    obtain ⟨i, hi⟩ := List.getElem?_of_mem hu
    have hlt : i < tvs.length := by rw [hv.1]; simpa using (List.getElem?_eq_some_iff.1 hi).1
    exact (hcl i _ u (List.getElem?_eq_getElem hlt) hi).1
  have hlen : tvs.length = n := by rw [hv.1, hn]
  generalize hcells : ((xs.map a.eval).flatMap fun v => v.cells.toList).toArray = cells
  have hget : ∀ i j u, (xs.map a.eval)[i]? = some u → j < sz → cells[i * sz + j]? = u.cells[j]? := fun i j u hi hj => by
    rw [← hcells]
    have h1 : ((xs.map a.eval).flatMap fun v => v.cells.toList).toArray[i * sz + j]? = ((xs.map a.eval).flatMap fun v => v.cells.toList)[i * sz + j]? := by simp
    rw [h1, Great.flat_get hsz _ hvs]
    have h2 : (i * sz + j) / sz = i := by rw [Nat.add_comm, Nat.add_mul_div_right _ _ hsz, Nat.div_eq_of_lt hj, Nat.zero_add]
    have h3 : (i * sz + j) % sz = j := by rw [Nat.add_comm, Nat.add_mul_mod_self_right, Nat.mod_eq_of_lt hj]
    rw [h2, h3, hi]
    rfl
  have hsize : cells.size = n * sz := by
    rw [← hcells]
    have : ∀ l : List Value, (∀ v ∈ l, v.cells.size = sz) → (l.flatMap fun v => v.cells.toList).length = l.length * sz := by
      intro l
      induction l with
      | nil => intro _; simp
      | cons v l ih =>
        intro hl
        rw [List.flatMap_cons, List.length_append, ih (fun v hv => hl v (List.mem_cons_of_mem _ hv)), List.length_cons, Nat.add_mul]
        have := hl v List.mem_cons_self
        simp only [Array.length_toList, this]
        omega
    rw [List.size_toArray, this _ hvs, List.length_map, hn]
  have hrow : ∀ tv ∈ tvs, (elD tv).row = (cellsV tv).map cellD := fun tv htv => elD_row tv (.inl (fun e => by
    have := (hal' tv htv).1
    rw [e] at this
    simp at this
    omega))
  obtain ⟨g', hR', hhd, hS⟩ := hR.slice (k := k) hkp (cells := cells) (e := e) (sz := sz) (n := n) (c := n) (ds := tvs.map elD) (by simpa using hlen) (by
      have : n * 1 ≤ n * sz := Nat.mul_le_mul_left _ hsz
      simp only [most]
      omega) (Nat.le_refl _) (by
      have : n * 1 ≤ n * sz := Nat.mul_le_mul_left _ hsz
      omega) (by omega)
    (fun d hd => by
      obtain ⟨tv, htv, rfl⟩ := List.mem_map.1 hd
      rw [hrow tv htv, List.length_map, (hal' tv htv).1]) (fun i d hd j c' u hj hu => by
      rw [List.getElem?_map, Option.map_eq_some_iff] at hd
      obtain ⟨tv, htv, rfl⟩ := hd
      rw [hrow tv (List.mem_of_getElem? htv), List.getElem?_map, Option.map_eq_some_iff] at hj
      obtain ⟨c, hj, rfl⟩ := hj
      have hjl : j < sz := by rw [← (hal' tv (List.mem_of_getElem? htv)).1]; exact (List.getElem?_eq_some_iff.1 hj).1
      have hil : i < (xs.map a.eval).length := by rw [List.length_map, ← hv.1]; exact (List.getElem?_eq_some_iff.1 htv).1
      have hxi := List.getElem?_eq_getElem hil
      rw [hget i j _ hxi hjl] at hu
      exact cellD_made ((hcl i tv _ htv hxi).2 j c u hj hu))
  refine ⟨cells, g', ?_, hR', hhd, hS, fun i tv hi j c hj => ?_⟩
  · have hzr : (zeroValue e).run P w = .ok zv w := by
      rw [Option.bind_eq_some_iff] at hz
      obtain ⟨i, h1, h2⟩ := hz
      simp [zeroValue, typeInfo, h1, h2]
    have hparts : (parts.map fun x => (x.1, a.eval x.2)).toList = ((xs.map a.eval).zipIdx 0).map fun x => (x.2, x.1) := by
      rw [Array.toList_map, hp, List.map_map, List.zipIdx_map, List.map_map]
      rfl
    have hfill := Great.fill_whole hsz (xs.map a.eval) ((Array.range (n * sz)).map (zv.cells[· % zv.cells.size]!)) hvs (by simp [hn])
    rw [hcells, ← hparts] at hfill
    have h24 : ¬ (16777216 < n * sz) := by omega
    by_cases h0 : n * sz = 0
    · have hn0 : n = 0 := by
        rcases Nat.mul_eq_zero.1 h0 with h | h
        · exact h
        · omega
      subst hn0
      have hc0 : cells = #[] := by
        apply Array.eq_empty_of_size_eq_zero
        omega
      have hpe : parts = #[] := by
        have hx0 : xs = [] := List.eq_nil_of_length_eq_zero hn
        rw [hx0] at hp
        have : parts.toList = [] := by simpa using hp
        exact Array.toList_eq_nil_iff.1 this
      subst hc0; subst hpe
      simp [execOp, ho, Instr.buildSlice, run_underlying hu, run_sizeOf' hs, Instr.fill, newRow, Array.range_zero']
    · simp [execOp, ho, Instr.buildSlice, run_underlying hu, run_sizeOf' hs, h24, h0, hzr, newRow]
      simp at hfill
      simp [hfill]
  · have hroot : (st.renew [k] k ⟨false, [.own (.sl sz (tvs.map elD))]⟩).root k = some ⟨false, [.own (.sl sz (tvs.map elD))]⟩ := by rw [St.root_renew]; simp
    have hOw : Ow (w.alloc (.cells cells e)) g' k [] 0 (.sl sz (tvs.map elD)) := hR'.rt.cell k _ hroot 0 (.own (.sl sz (tvs.map elD))) rfl
    have hjl : j < sz := by rw [← (hal' tv (List.mem_of_getElem? hi)).1]; exact (List.getElem?_eq_some_iff.1 hj).1
    have hil : i < (xs.map a.eval).length := by rw [List.length_map, ← hv.1]; exact (List.getElem?_eq_some_iff.1 hi).1
    have hxi := List.getElem?_eq_getElem hil
    have hsz' := (hcl i tv _ hi hxi).1
    generalize hmap : tvs.map elD = dl at hOw
    cases hOw with
    | nil _ _ _ hc => rw [hhd] at hc; cases hc
    | sl _ _ _ _ b off n' c' cs ty hc hn' hm hnc hcm ho' hb hfit hrow' had hcell hel =>
      rw [hhd] at hc
      simp only [Value.slice.injEq, Option.some.injEq, Addr.mk.injEq] at hc
      obtain ⟨⟨rfl, rfl, _⟩, rfl, rfl⟩ := hc
      have h5 := hcell i j (by rw [List.length_map] at hil; omega) hjl
      rw [Nat.zero_add, World.cell?_alloc_new, hget i j _ hxi hjl] at h5
      exact (hcl i tv _ hi hxi).2 j c _ hj h5

theorem OpT.buildP {n : Nat} {parts : Array (Nat × Operand)} (ho : o.op = .buildSlice t n parts) {k : Nat} (hd : o.dst = some k) {xs : List Operand} (hp : parts.toList = (xs.zipIdx 0).map fun x => (x.2, x.1)) (hn : xs.length = n)
    {tvs : List TV} (hx : T.vals 0 st xs = some tvs) (hu : P.underlying t = some (.slice e)) {sz : Nat} (hs : sizeT P e = some sz) {zv : Value} (hz : (P.info? e).bind (·.zero) = some zv)
    (hal : tvs.all (aliveV sz) = true) (hsz : 0 < sz) (hsz2 : n * sz ≤ 16777216) (hq : Q ((st.renew [k] k ⟨false, [.own (.sl sz (tvs.map elD))]⟩).put (some k) (.one (.c (.ref ⟨k, [], 0⟩))))) (hkp : k < 1000000 := by decide) :
    OpT P w0 g0 o st Q := fun a w g hR K Q' hK => by
  obtain ⟨cells, g', hrun, hR', hhd, hS, _⟩ := hR.built ho hp hn k hkp hx hu hs hz hal hsz hsz2
  unfold Oper.wp
  rw [hrun]
  refine hK _ _ _ g' hq ?_
  rw [hd]
  exact hR'.put (ref_mk hhd.symm rfl) (some k)

theorem OpT.build1 (ho : o.op = .buildSlice t 1 #[(0, x)]) {k : Nat} (hd : o.dst = some k) {tv : TV} {z : Nat} (hx : T.opd z st x = some (.one tv)) (hu : P.underlying t = some (.slice e)) {sz : Nat} (hs : sizeT P e = some sz)
    {zv : Value} (hz : (P.info? e).bind (·.zero) = some zv) (hal : aliveV sz tv = true) (hsz : 0 < sz) (hsz2 : sz ≤ 16777216) {st' : St}
    (had : St.adopt k (cellsV tv) (C.kill fun pl => pl.k == k) 0 (st.renew [k] k ⟨false, [.own (.sl sz [elD tv])]⟩) = some st')
    (hq : Q (st'.put (some k) (.one (.c (.ref ⟨k, [], 0⟩))))) (hkp : k < 1000000 := by decide) : OpT P w0 g0 o st Q := fun a w g hR K Q' hK => by
  obtain ⟨cells, g', hrun, hR', hhd, hS, hcv⟩ := hR.built (xs := [x]) ho rfl rfl k hkp (z := z) (tvs := [tv]) (by simp [T.vals, hx]) hu hs hz (by simp [hal]) hsz (by omega)
  have hA : Agree w g (w.alloc (.cells cells e)) g' (fun pl => pl.k == k) (fun pl => pl.k == k) := ⟨hS.ro, fun pl hp => by rw [hS.cv pl.k (by simpa using hp)], fun pl hp => by rw [hS.ad pl.k (by simpa using hp)]⟩
  obtain ⟨g2, hR2, hcv2⟩ := Rel.adopt hR' had fun i c hi => by
    rw [Nat.zero_add]
    exact (hcv 0 tv rfl i c hi).kill hA
  unfold Oper.wp
  rw [hrun]
  refine hK _ _ _ g2 hq ?_
  rw [hd]
  exact hR2.put (ref_mk (by rw [hcv2]; exact hhd.symm) rfl) (some k)

theorem OpT.build0 (ho : o.op = .buildSlice t 0 #[]) {k : Nat} (hd : o.dst = some k) (hu : P.underlying t = some (.slice e)) {sz : Nat} (hs : sizeT P e = some sz)
    (hq : Q ((st.renew [k] k ⟨false, [.own (.sl sz [])]⟩).put (some k) (.one (.c (.ref ⟨k, [], 0⟩))))) (hkp : k < 1000000 := by decide) : OpT P w0 g0 o st Q := fun a w g hR K Q' hK => by
  obtain ⟨g', hR', hhd, _⟩ := hR.slice (k := k) hkp (cells := #[]) (e := e) (sz := sz) (n := 0) (c := 0) (ds := []) rfl (Nat.zero_le _) (Nat.le_refl _) (by omega) (by simp) (fun d hd => by cases hd) (fun i d hd => by simp at hd)
  unfold Oper.wp
  have hrun : (execOp a.eval o).run P w = .ok (.value (.slice (some ⟨w.heap.size, 0, none⟩) 0 0)) (w.alloc (.cells #[] e)) := by
    simp [execOp, ho, Instr.buildSlice, run_underlying hu, run_sizeOf' hs, Instr.fill, newRow, Array.range_zero']
  rw [hrun]
  refine hK _ _ _ g' hq ?_
  rw [hd]
  exact hR'.put (ref_mk hhd.symm rfl) (some k)

end
end Go.Proofs.YtdlpmcjpbcbbjaaDoor.T
