/- The lifted walk, part g: operations that read memory. No condition. -/
import Derived.Test.YtdlpmcjpbcbbjaaDoorTf
namespace Go.Proofs.YtdlpmcjpbcbbjaaDoor.T
open Go
set_option linter.unusedVariables false
set_option linter.unusedSimpArgs false

/-- The content of a cell at a place. -/
def St.cellAt (st : St) (pl : Pl) : Option C :=
  match st.root pl.k with
  | none => none
  | some r =>
    match pl.p with
    | [] => r.row[pl.q]?
    | (q, i) :: p =>
      match r.row[q]? with
      | some (.own (.sl _ ds)) =>
        match ds[i]? with
        | some d =>
          match rowAt d.row p with
          | some row =>
            match row[pl.q]? with
            | some x => some (.own x)
            | none => none
          | none => none
        | none => none
      | _ => none

def St.isMem (st : St) (pl : Pl) : Bool :=
  match pl.p with
  | [] => match st.root pl.k with | some r => r.mem | none => false
  | _ => true

/-- A cell's content as a value. -/
def valC (pl : Pl) : C → C
  | .ro d => .ro d
  | .own (.v x) => .ro (.v x)
  | .own (.sl _ _) => .ref pl
  | .own _ => .dead
  | .ref pl' => .ref pl'
  | .dead => .dead

/-- So many cells from a place on, as values. -/
def St.cellsAt (st : St) (k : Nat) (p : List (Nat × Nat)) : Nat → Nat → Option (List C)
  | _, 0 => some []
  | q, n + 1 =>
    match st.cellAt ⟨k, p, q⟩ with
    | some c =>
      match st.cellsAt k p (q + 1) n with
      | some l => some (valC ⟨k, p, q⟩ c :: l)
      | none => none
    | none => none

section
variable {P : Program} {w0 : World} {g0 : Gh} {st : St} {a : Act} {w : World} {g : Gh}

theorem Rel.cellAt (hR : Rel w0 g0 st a w g) {pl : Pl} {c : C} (h : st.cellAt pl = some c) :
    (∀ d, c = .own d → Ow w g pl.k pl.p pl.q d) ∧ RepV w g (valC pl c) (g.cv pl.k pl.p pl.q) ∧ (st.isMem pl = true → w.cell? (cellAddr (g.ad pl.k pl.p) pl.q) = some (g.cv pl.k pl.p pl.q)) ∧
    (st.isMem pl = true → g.o (g.ad pl.k pl.p).1 = tagOf pl.k pl.p ∧ ∃ cs e, w.heap[(g.ad pl.k pl.p).1]? = some (.cells cs e (0, 0))) := by
  obtain ⟨k, p, q⟩ := pl
  simp only [St.cellAt] at h
  have hval : ∀ c, RepC w g k q c → p = [] → (∀ d, c = .own d → Ow w g k p q d) ∧ RepV w g (valC ⟨k, p, q⟩ c) (g.cv k p q) := fun c hc hp => by
    subst hp
    refine ⟨fun d e => by subst e; exact hc, ?_⟩
    cases c with
    | ro d => exact hc
    | own d =>
      cases d with
      | v x =>
        have h1 : Ow w g k [] q (.v x) := hc
        cases h1 with
        | v _ _ _ hx he => show Ro w g.o (.v x) (g.cv k [] q); rw [he]; exact .v x hx
      | sl sz ds =>
        have h1 : Ow w g k [] q (.sl sz ds) := hc
        refine ⟨rfl, ?_⟩
        cases h1 with
        | nil _ _ _ he => rw [he]; rfl
        | sl _ _ _ _ _ _ _ _ _ _ he => rw [he]; rfl
      | _ => trivial
    | ref pl => exact hc
    | dead => trivial
  split at h
  · cases h
  · rename_i r hr
    split at h
    · skip
      have hc := hR.rt.cell k r hr q c h
      have hv := hval c hc rfl
      refine ⟨hv.1, hv.2, fun hm => ?_, fun hm => ?_⟩
      · simp only [St.isMem, hr] at hm
        exact (hR.rt.mem k r hr hm).2.2 q (List.getElem?_eq_some_iff.1 h).1
      · simp only [St.isMem, hr] at hm
        exact ⟨(hR.rt.mem k r hr hm).1, (hR.rt.mem k r hr hm).2.1⟩
    · rename_i pold q1 i1 p1
      split at h
      · rename_i sz ds hq
        split at h
        · rename_i d hd
          split at h
          · rename_i row hrow
            split at h
            · rename_i x hx
              simp only [Option.some.injEq] at h
              subst h
              have h1 : Ow w g k [] q1 (.sl sz ds) := hR.rt.cell k r hr q1 _ hq
              have h2 := (h1.row hd).at p1 hrow
              simp only [List.nil_append, List.singleton_append] at h2
              have h3 := h2.own q x hx
              have hlt := (List.getElem?_eq_some_iff.1 hx).1
              refine ⟨fun d e => by cases e; exact h3, ?_, fun _ => h2.cell q hlt, fun _ => ⟨h2.tag, ?_⟩⟩
              · cases x with
                | v y =>
                  cases h3 with
                  | v _ _ _ hy he => show Ro w g.o (.v y) (g.cv k _ q); rw [he]; exact .v y hy
                | sl sz' ds' =>
                  refine ⟨rfl, ?_⟩
                  cases h3 with
                  | nil _ _ _ he => rw [he]; rfl
                  | sl _ _ _ _ _ _ _ _ _ _ he => rw [he]; rfl
                | _ => trivial
              · -- the block of the row
                have key : ∀ (r : List (Nat × Nat)) (p0 : List (Nat × Nat)) (row0 row : List D), RowOk w g k p0 row0 → (∃ cs e, w.heap[(g.ad k p0).1]? = some (.cells cs e (0, 0))) → rowAt row0 r = some row →
                    ∃ cs e, w.heap[(g.ad k (p0 ++ r)).1]? = some (.cells cs e (0, 0)) := by
                  intro r
                  induction r with
                  | nil => intro p0 row0 row _ hb _; simpa using hb
                  | cons y r ih =>
                    obtain ⟨y1, y2⟩ := y
                    intro p0 row0 row hok hb hr
                    simp only [rowAt] at hr
                    split at hr
                    · rename_i sz' ds' hq'
                      split at hr
                      · rename_i d' hd'
                        have ho := hok.own y1 _ hq'
                        have hrow' := ho.row hd'
                        have := ih (p0 ++ [(y1, y2)]) d'.row row hrow' (by
                          cases ho with
                          | nil _ _ _ hc => simp at hd'
                          | sl _ _ _ _ b off n c cs ty hc hn hm hnc hcm ho hb' hfit hro had hcell hel =>
                            have hi : y2 < n := by
                              have := (List.getElem?_eq_some_iff.1 hd').1
                              omega
                            rw [had y2 hi]
                            exact ⟨cs, ty, hb'⟩) hr
                        simpa using this
                      · cases hr
                    · cases hr
                have h0 : ∃ cs e, w.heap[(g.ad k ([] ++ [(q1, i1)])).1]? = some (.cells cs e (0, 0)) := by
                  cases h1 with
                  | nil _ _ _ hc => simp at hd
                  | sl _ _ _ _ b off n c cs ty hc hn hm hnc hcm ho hb' hfit hro had hcell hel =>
                    have hi : i1 < n := by
                      have := (List.getElem?_eq_some_iff.1 hd).1
                      omega
                    rw [had i1 hi]
                    exact ⟨cs, ty, hb'⟩
                have := key p1 ([] ++ [(q1, i1)]) d.row row (h1.row hd) h0 hrow
                simpa using this
            · cases h
          · cases h
        · cases h
      · cases h

theorem Rel.cellsAt (hR : Rel w0 g0 st a w g) {k : Nat} {p : List (Nat × Nat)} : ∀ {n q : Nat} {l : List C}, st.cellsAt k p q n = some l → st.isMem ⟨k, p, q⟩ = true →
    l.length = n ∧ (∀ j, j < n → w.cell? (cellAddr (g.ad k p) (q + j)) = some (g.cv k p (q + j))) ∧ ∀ (j : Nat) c, l[j]? = some c → RepV w g c (g.cv k p (q + j))
  | 0, q, l, h, _ => by
    simp only [St.cellsAt, Option.some.injEq] at h
    subst h
    exact ⟨rfl, fun j hj => absurd hj (Nat.not_lt_zero j), fun j c hj => by simp at hj⟩
  | n + 1, q, l, h, hm => by
    simp only [St.cellsAt] at h
    split at h
    · rename_i c hc
      split at h
      · rename_i l' hl
        simp only [Option.some.injEq] at h
        subst h
        have h1 := hR.cellAt hc
        have h2 := Rel.cellsAt hR hl hm
        refine ⟨by simp [h2.1], fun j hj => ?_, fun j c' hj => ?_⟩
        · cases j with
          | zero => exact h1.2.2.1 hm
          | succ j =>
            have := h2.2.1 j (by omega)
            rw [show q + (j + 1) = q + 1 + j by omega]
            exact this
        · cases j with
          | zero =>
            simp only [List.getElem?_cons_zero, Option.some.injEq] at hj
            subst hj
            exact h1.2.1
          | succ j =>
            simp only [List.getElem?_cons_succ] at hj
            rw [show q + (j + 1) = q + 1 + j by omega]
            exact h2.2.2 j c' hj
      · cases h
    · cases h

def aggT (P : Program) (t : TypeId) : Option Bool := (P.underlying t).map fun d => match d with | .struct _ | .array _ _ => true | _ => false
def sizeT (P : Program) (t : TypeId) : Option Nat := (P.info? t).map (·.size)

theorem run_isAgg' {t : TypeId} {b : Bool} (h : aggT P t = some b) (w : World) : (isAgg t).run P w = .ok b w := by
  unfold aggT at h
  rw [Option.map_eq_some_iff] at h
  obtain ⟨d, h1, rfl⟩ := h
  simp only [isAgg, Sem.run_bind, run_underlying h1, Result.andThen]
  split <;> simp_all
theorem run_sizeOf' {t : TypeId} {n : Nat} (h : sizeT P t = some n) (w : World) : (sizeOf t).run P w = .ok n w := by
  unfold sizeT at h
  rw [Option.map_eq_some_iff] at h
  obtain ⟨i, h1, rfl⟩ := h
  simp [sizeOf, typeInfo, h1]

theorem addr_add (x : Nat × Nat) (q n : Nat) : (cellAddr x q).add n = cellAddr x (q + n) := by
  simp only [cellAddr, Addr.add]
  split
  · subst_vars; rfl
  · simp [Nat.add_assoc]

variable {o : Oper} {x y : Operand} {t e : TypeId}

theorem Val.load (ho : o.op = .load t x) {pl : Pl} (hx : T.opd 0 st x = some (.one (.ptr pl))) (ht : aggT P t = some false) {c : C} (hc : st.cellAt pl = some c) (hm : st.isMem pl = true) : Val P w0 g0 o st (.one (.c (valC pl c))) :=
  fun a w g hR => by
    have h1 := hR.opd hx
    generalize hv : a.eval x = v at h1
    cases h1 with
    | one _ _ h1 =>
      cases h1 with
      | ptr _ =>
        have h2 := hR.cellAt hc
        refine ⟨g.cv pl.k pl.p pl.q, fun w' hw => ?_, .one _ _ (.c _ _ h2.2.1)⟩
        have h3 := hw.cell (h2.2.2.1 hm)
        simp [execOp, ho, hv, Instr.loadAt, Instr.sureAddr, loadVar, run_isAgg' ht, h3]

theorem Val.loadAgg (ho : o.op = .load t x) {pl : Pl} (hx : T.opd 0 st x = some (.one (.ptr pl))) (ht : aggT P t = some true) {n : Nat} (hs : sizeT P t = some n) {l : List C}
    (hl : st.cellsAt pl.k pl.p pl.q n = some l) (hm : st.isMem pl = true) : Val P w0 g0 o st (.one (.agg l)) :=
  fun a w g hR => by
    have h1 := hR.opd hx
    generalize hv : a.eval x = v at h1
    cases h1 with
    | one _ _ h1 =>
      cases h1 with
      | ptr _ =>
        obtain ⟨h2, h3, h4⟩ := hR.cellsAt hl hm
        refine ⟨.agg ((List.range n).map fun j => g.cv pl.k pl.p (pl.q + j)).toArray, fun w' hw => ?_, .one _ _ (.agg _ _ (by simp [h2]) fun j c u hj hu => ?_)⟩
        · have hrun := run_loadCells (P := P) w' (cellAddr (g.ad pl.k pl.p) pl.q) n (fun j => g.cv pl.k pl.p (pl.q + j)) (fun j hj => by rw [addr_add]; exact hw.cell (h3 j hj))
          simp [execOp, ho, hv, Instr.loadAt, Instr.sureAddr, loadVar, run_isAgg' ht, run_sizeOf' hs, hrun]
        · rw [List.getElem?_toArray, List.getElem?_map, Option.map_eq_some_iff] at hu
          obtain ⟨j', h5, rfl⟩ := hu
          rw [List.getElem?_range (by rw [← h2]; exact (List.getElem?_eq_some_iff.1 hj).1)] at h5
          simp only [Option.some.injEq] at h5
          subst h5
          exact h4 j c hj

theorem Val.loadC (ho : o.op = .load t x) {d : D} {ds : List D} (hx : T.opd 0 st x = some (.one (.cptr (d :: ds)))) (ht : aggT P t = some false) : Val P w0 g0 o st (.one (.c (.ro d))) :=
  fun a w g hR => by
    have h1 := hR.opd hx
    generalize hv : a.eval x = v at h1
    cases h1 with
    | one _ _ h1 =>
      cases h1 with
      | cptr _ b off us hro hcell =>
        have h2 := hcell 0 d rfl
        refine ⟨us 0, fun w' hw => ?_, .one _ _ (.c _ _ h2.2)⟩
        have h3 : w'.cell? ⟨b, off, none⟩ = some (us 0) := hw.cell h2.1
        simp [execOp, ho, hv, Instr.loadAt, Instr.sureAddr, loadVar, run_isAgg' ht, h3]

theorem Val.loadCAgg (ho : o.op = .load t x) {ds : List D} (hx : T.opd 0 st x = some (.one (.cptr ds))) (ht : aggT P t = some true) {n : Nat} (hs : sizeT P t = some n) (hn : n ≤ ds.length) : Val P w0 g0 o st (.one (.agg ((ds.take n).map C.ro))) :=
  fun a w g hR => by
    have h1 := hR.opd hx
    generalize hv : a.eval x = v at h1
    cases h1 with
    | one _ _ h1 =>
      cases h1 with
      | cptr _ b off us hro hcell =>
        refine ⟨.agg ((List.range n).map us).toArray, fun w' hw => ?_, .one _ _ (.agg _ _ (by simp; omega) fun j c u hj hu => ?_)⟩
        · have hrun := run_loadCells (P := P) w' ⟨b, off, none⟩ n us (fun j hj => by
            rw [Addr.add_lit]
            exact hw.cell (hcell j ds[j] (List.getElem?_eq_getElem (by omega))).1)
          simp [execOp, ho, hv, Instr.loadAt, Instr.sureAddr, loadVar, run_isAgg' ht, run_sizeOf' hs, hrun]
        · rw [List.getElem?_map, Option.map_eq_some_iff] at hj
          obtain ⟨d, hj, rfl⟩ := hj
          rw [List.getElem?_take] at hj
          split at hj
          · rename_i hjn
            rw [List.getElem?_toArray, List.getElem?_map, List.getElem?_range hjn] at hu
            simp only [Option.map_some, Option.some.injEq] at hu
            subst hu
            exact (hcell j d hj).2
          · cases hj

/-- How far into the struct a field lies. -/
def fieldOff (P : Program) (s : TypeId) (f : Nat) : Option Nat :=
  match P.underlying s with
  | some (.struct fs) => match fs[f]? with
    | some fl => match sizeT P fl.type with
      | some 0 => none
      | some _ => some fl.offset
      | none => none
    | none => none
  | _ => none

theorem run_fieldAt' {s : TypeId} {f off : Nat} (h : fieldOff P s f = some off) (ad : Addr) (w : World) : (Instr.fieldAt s (.pointer (some ad)) f).run P w = .ok (.pointer (some (ad.add off))) w := by
  unfold fieldOff at h
  split at h
  · rename_i fs hu
    split at h
    · rename_i fl hf
      split at h
      · cases h
      · rename_i n hn0 hn
        simp only [Option.some.injEq] at h
        subst h
        have hz : n ≠ 0 := hn0
        simp [Instr.fieldAt, run_underlying hu, hf, Instr.sureAddr, fieldPlace, run_sizeOf' hn, hz]
      · cases h
    · cases h
  · cases h

theorem Val.field {s : TypeId} {f : Nat} (ho : o.op = .fieldAddr s x f) {pl : Pl} (hx : T.opd 0 st x = some (.one (.ptr pl))) {off : Nat} (hf : fieldOff P s f = some off) : Val P w0 g0 o st (.one (.ptr ⟨pl.k, pl.p, pl.q + off⟩)) :=
  fun a w g hR => by
    have h1 := hR.opd hx
    generalize hv : a.eval x = v at h1
    cases h1 with
    | one _ _ h1 =>
      cases h1 with
      | ptr _ =>
        refine ⟨_, fun w' hw => ?_, .one _ _ (.ptr ⟨pl.k, pl.p, pl.q + off⟩)⟩
        simp [execOp, ho, hv, run_fieldAt' hf, addr_add]

theorem Val.fieldC {s : TypeId} {f : Nat} (ho : o.op = .fieldAddr s x f) {ds : List D} (hx : T.opd 0 st x = some (.one (.cptr ds))) {off : Nat} (hf : fieldOff P s f = some off) : Val P w0 g0 o st (.one (.cptr (ds.drop off))) :=
  fun a w g hR => by
    have h1 := hR.opd hx
    generalize hv : a.eval x = v at h1
    cases h1 with
    | one _ _ h1 =>
      cases h1 with
      | cptr _ b of us hro hcell =>
        refine ⟨.pointer (some ⟨b, of + off, none⟩), fun w' hw => ?_, .one _ _ (.cptr _ b (of + off) (fun j => us (off + j)) hro fun j d hj => ?_)⟩
        · simp [execOp, ho, hv, run_fieldAt' hf, Addr.add_lit]
        · rw [List.getElem?_drop] at hj
          have := hcell _ d hj
          rw [← Nat.add_assoc] at this
          exact this

theorem Val.index (ho : o.op = .indexAddr t x y) {pl : Pl} {sz : Nat} {ds : List D} {k : IntKind} {i : Int} (hx : T.opd 0 st x = some (.one (.c (.ref pl)))) (hy : T.opd 0 st y = some (V (.int k i)))
    (hu : P.underlying t = some (.slice e)) (hs : sizeT P e = some sz) (hc : st.cellAt pl = some (.own (.sl sz ds))) (h0 : 0 ≤ i) (h1 : i.toNat < ds.length) : Val P w0 g0 o st (.one (.ptr ⟨pl.k, pl.p ++ [(pl.q, i.toNat)], 0⟩)) :=
  fun a w g hR => by
    have h2 := hR.opd hx
    generalize hv : a.eval x = v at h2
    cases h2 with
    | one _ _ h2 =>
      cases h2 with
      | c _ _ h2 =>
        have h3 : v = g.cv pl.k pl.p pl.q := h2.1
        have h4 := (hR.cellAt hc).1 _ rfl
        cases h4 with
        | nil _ _ _ hc' => simp at h1
        | sl _ _ _ _ b off n c cs ty hcv hn hm hnc hcm ho' hb hfit hrow had hcell hel =>
          rw [hcv] at h3
          subst h3
          have hlt : i < (n : Int) := by omega
          refine ⟨_, fun w' hw => ?_, .one _ _ (.ptr ⟨pl.k, pl.p ++ [(pl.q, i.toNat)], 0⟩)⟩
          simp only [execOp, ho, hv, hR.val hy, Sem.run_bind, Sem.run_pure, Instr.indexAt, asIntOf, Result.andThen_ok, run_underlying hu, run_sizeOf' hs]
          simp [h0, hlt, run_sizeOf' hs, cellAddr, had i.toNat (by omega), Addr.add_lit]

theorem Val.indexC (ho : o.op = .indexAddr t x y) {sz : Nat} {ds : List D} {d : D} {k : IntKind} {i : Int} (hx : T.opd 0 st x = some (.one (.c (.ro (.sl sz ds))))) (hy : T.opd 0 st y = some (V (.int k i)))
    (hu : P.underlying t = some (.slice e)) (hs : sizeT P e = some sz) (h0 : 0 ≤ i) (h1 : ds[i.toNat]? = some d) : Val P w0 g0 o st (.one (.cptr d.row)) :=
  fun a w g hR => by
    have h2 := hR.opd hx
    generalize hv : a.eval x = v at h2
    cases h2 with
    | one _ _ h2 =>
      cases h2 with
      | c _ _ h2 =>
        have h3 : Ro w g.o (.sl sz ds) v := h2
        cases h3 with
        | nil _ _ _ => simp at h1
        | sl _ _ b off n c us hn hm hro hrow hcell hel =>
          have hl := (List.getElem?_eq_some_iff.1 h1).1
          have hlt : i < (n : Int) := by omega
          refine ⟨.pointer (some ⟨b, off + i.toNat * sz, none⟩), fun w' hw => ?_, .one _ _ (.cptr _ b _ (fun j => us (i.toNat * sz + j)) hro fun j c' hj => ?_)⟩
          · simp only [execOp, ho, hv, hR.val hy, Sem.run_bind, Sem.run_pure, Instr.indexAt, asIntOf, Result.andThen_ok, run_underlying hu, run_sizeOf' hs]
            simp [h0, hlt, run_sizeOf' hs, Addr.add_lit]
          · refine ⟨?_, hel _ d h1 j c' hj⟩
            have hj' : j < sz := by
              rw [← hrow d (List.mem_of_getElem? h1)]
              exact (List.getElem?_eq_some_iff.1 hj).1
            have h5 : i.toNat * sz + j < n * sz := by
              have : (i.toNat + 1) * sz ≤ n * sz := Nat.mul_le_mul_right _ (by omega)
              rw [Nat.add_mul] at this
              omega
            have := hcell _ h5
            rw [← Nat.add_assoc] at this
            exact this

/-- A list that a value stands for: data that nobody writes, or a cell's content. -/
def listOf (st : St) : TS → Option (Nat × List D)
  | .one (.c (.ro (.sl sz ds))) => some (sz, ds)
  | .one (.c (.ref pl)) => match st.cellAt pl with | some (.own (.sl sz ds)) => some (sz, ds) | _ => none
  | _ => none

theorem Rel.list (hR : Rel w0 g0 st a w g) {tv : TS} {sz : Nat} {ds : List D} (h : listOf st tv = some (sz, ds)) {v : Value} (hv : RepS w g tv v) : ∃ ad c, v = .slice ad ds.length c ∧ ds.length ≤ most := by
  unfold listOf at h
  split at h
  · rename_i sz' ds'
    simp only [Option.some.injEq, Prod.mk.injEq] at h
    obtain ⟨rfl, rfl⟩ := h
    cases hv with
    | one _ _ h1 =>
      cases h1 with
      | c _ _ h2 =>
        have h3 : Ro w g.o (.sl sz' ds') v := h2
        cases h3 with
        | nil _ ad c => exact ⟨ad, c, rfl, Nat.zero_le _⟩
        | sl _ _ b off n c us hn hm hro hrow hcell hel => exact ⟨_, c, by rw [hn], by rw [hn]; exact hm⟩
  · rename_i pl
    split at h
    · rename_i sz' ds' hc
      simp only [Option.some.injEq, Prod.mk.injEq] at h
      obtain ⟨rfl, rfl⟩ := h
      have h4 := (hR.cellAt hc).1 _ rfl
      cases hv with
      | one _ _ h1 =>
        cases h1 with
        | c _ _ h2 =>
          have h3 : v = g.cv pl.k pl.p pl.q := h2.1
          cases h4 with
          | nil _ _ _ hc' => exact ⟨none, 0, by rw [h3, hc']; rfl, Nat.zero_le _⟩
          | sl _ _ _ _ b off n c cs ty hcv hn hm hnc hcm ho' hb hfit hrow had hcell hel => exact ⟨_, c, by rw [h3, hcv, hn], by rw [hn]; exact hm⟩
    · cases h
  · cases h

theorem Val.len (ho : o.op = .call { callee := .builtin .len, args := #[x], argTypes := #[t] }) {tv : TS} {sz : Nat} {ds : List D} (hx : T.opd 0 st x = some tv) (hl : listOf st tv = some (sz, ds))
    (hu : P.underlying t = some (.slice e)) : Val P w0 g0 o st (I ds.length) := fun a w g hR => by
  obtain ⟨ad, c, hv, _⟩ := hR.list hl (hR.opd hx)
  refine ⟨.int .i64 ds.length, fun w' hw => ?_, V_mk rfl⟩
  simp [execOp, ho, resolve, invoke, builtin, Builtin.len_, run_underlying hu, hv, goInt]

/-- A list that is at hand is no longer than the machine bears. -/
theorem TL.most {Q : St → Prop} {ops : Array Oper} {l : List Oper} {tv : TS} {i : Nat} {sz : Nat} {ds : List D} (hx : st.tmps[i]? = some tv) (hl : listOf st tv = some (sz, ds)) (h : ds.length ≤ most → TL P w0 g0 ops l st Q) :
    TL P w0 g0 ops l st Q := fun a w g hR => by
  obtain ⟨ad, c, hv, hm⟩ := hR.list hl (hR.tm i tv hx)
  exact h hm a w g hR

theorem TC.most {Q : Exit → St → Prop} {c : Code} {tv : TS} {i : Nat} {sz : Nat} {ds : List D} (hx : st.tmps[i]? = some tv) (hl : listOf st tv = some (sz, ds)) (h : ds.length ≤ most → TC P w0 g0 c st Q) :
    TC P w0 g0 c st Q := fun a w g hR => by
  obtain ⟨ad, c, hv, hm⟩ := hR.list hl (hR.tm i tv hx)
  exact h hm a w g hR

theorem Val.lenS (ho : o.op = .call { callee := .builtin .len, args := #[x], argTypes := #[t] }) {s : ByteArray} (hx : T.opd 0 st x = some (V (.string s)))
    (hu : P.underlying t = some .string) : Val P w0 g0 o st (I s.size) :=
  fun a w g hR => ⟨.int .i64 s.size, fun w' _ => by simp [execOp, ho, resolve, invoke, builtin, Builtin.len_, run_underlying hu, hR.val hx, goInt], V_mk rfl⟩

end
end Go.Proofs.YtdlpmcjpbcbbjaaDoor.T
