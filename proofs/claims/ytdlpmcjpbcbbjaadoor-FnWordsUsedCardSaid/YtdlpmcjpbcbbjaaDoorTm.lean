/- The lifted walk, part m: calls of functions that leave alone what was there. No condition. -/
import Derived.Test.YtdlpmcjpbcbbjaaDoorTl
namespace Go.Proofs.YtdlpmcjpbcbbjaaDoor.T
open Go
set_option linter.unusedVariables false
set_option linter.unusedSimpArgs false

/-- Owners as a callee sees them: what is there is data that nobody writes. -/
def allRo (w : World) : Nat → Tag := fun b => if b < w.heap.size then .ro else .outer

/-- No part of the data was moved away. -/
inductive Whole : D → Prop
  | v (x : Value) : Whole (.v x)
  | sl (sz : Nat) (ds : List D) (h : ∀ d ∈ ds, ∀ c ∈ d.row, Whole c) : Whole (.sl sz ds)

theorem lt_of_heap {w : World} {b : Nat} {x : Obj} (h : w.heap[b]? = some x) : b < w.heap.size := (Array.getElem?_eq_some_iff.1 h).1

theorem Ow.roAt {w : World} {g : Gh} {k : Nat} {p : List (Nat × Nat)} {q : Nat} {d : D} (h : Ow w g k p q d) (hw : Whole d) {o : Nat → Tag} (hro : ∀ b, (g.o b).root? = some k → b < w.heap.size → o b = .ro) : Ro w o d (g.cv k p q) := by
  induction h with
  | v p q x hx hc => rw [hc]; exact .v x hx
  | hole p q => cases hw
  | nil p q sz hc => rw [hc]; exact .nil sz none 0
  | sl p q sz ds b off n c cs e hc hn hm hnc hcm ho hb hfit hrow had hcell hel ih =>
    rw [hc]
    cases hw with
    | sl _ _ hws =>
      have hlt := lt_of_heap hb
      by_cases hsz : sz = 0
      · subst hsz
        refine .sl 0 ds b off n c (fun _ => undef) hn hm (hro b (by rw [ho]; rfl) hlt) hrow (fun t ht => by simp at ht) (fun i d hd j c' hj => ?_)
        have := hrow d (List.mem_of_getElem? hd)
        have hj' := (List.getElem?_eq_some_iff.1 hj).1
        omega
      · refine .sl sz ds b off n c (fun t => g.cv k (p ++ [(q, t / sz)]) (t % sz)) hn hm (hro b (by rw [ho]; rfl) hlt) hrow (fun t ht => ?_) (fun i d hd j c' hj => ?_)
        · have h1 : t / sz < n := Nat.div_lt_of_lt_mul (by rw [Nat.mul_comm]; exact ht)
          have h2 : t % sz < sz := Nat.mod_lt _ (by omega)
          have h3 := hcell _ _ h1 h2
          have h4 : off + t / sz * sz + t % sz = off + t := by
            rw [Nat.add_assoc]
            congr 1
            rw [Nat.mul_comm]
            exact Nat.div_add_mod t sz
          rw [h4] at h3
          exact h3
        · have hj' : j < sz := by rw [← hrow d (List.mem_of_getElem? hd)]; exact (List.getElem?_eq_some_iff.1 hj).1
          have h1 : (i * sz + j) / sz = i := by
            rw [Nat.add_comm, Nat.add_mul_div_right _ _ (by omega), Nat.div_eq_of_lt hj', Nat.zero_add]
          have h2 : (i * sz + j) % sz = j := by
            rw [Nat.add_comm, Nat.add_mul_mod_self_right, Nat.mod_eq_of_lt hj']
          simp only [h1, h2]
          exact ih i d hd j c' hj (hws d (List.mem_of_getElem? hd) c' (List.mem_of_getElem? hj))

theorem Ow.ro {w : World} {g : Gh} {k : Nat} {p : List (Nat × Nat)} {q : Nat} {d : D} (h : Ow w g k p q d) (hw : Whole d) : Ro w (allRo w) d (g.cv k p q) := h.roAt hw fun b _ hb => by simp [allRo, hb]

theorem Ro.all {w : World} {o : Nat → Tag} {d : D} {v : Value} (h : Ro w o d v) (ho : ∀ b, o b = .ro → b < w.heap.size) : Ro w (allRo w) d v :=
  Ro.mono (w' := w) (fun b hb => ⟨by simp [allRo, ho b hb], rfl⟩) h

/-- A cell as it is handed to a callee. -/
def snapC (st : St) : C → Option C
  | .ro d => some (.ro d)
  | .ref pl => match st.cellAt pl with
    | some (.own d) => some (.ro d)
    | some (.ro d) => some (.ro d)
    | _ => none
  | _ => none

/-- The argument as a callee sees it. -/
inductive Snap (st : St) : TS → TS → Prop
  | ro (d : D) : Snap st (.one (.c (.ro d))) (.one (.c (.ro d)))
  | ref (pl : Pl) (d : D) (h : st.cellAt pl = some (.own d)) (hw : Whole d) : Snap st (.one (.c (.ref pl))) (.one (.c (.ro d)))
  | agg (cs cs' : List C) (hl : cs'.length = cs.length)
      (h : ∀ (j : Nat) c c', cs[j]? = some c → cs'[j]? = some c' → (∃ d, c = .ro d ∧ c' = .ro d) ∨ ∃ pl d, c = .ref pl ∧ c' = .ro d ∧ st.cellAt pl = some (.own d) ∧ Whole d) : Snap st (.one (.agg cs)) (.one (.agg cs'))
  | cptr (ds : List D) : Snap st (.one (.cptr ds)) (.one (.cptr ds))
  | ptr (pl : Pl) (ds : List D) (hm : st.isMem pl = true) (h : ∀ (j : Nat) d, ds[j]? = some d → (st.cellAt ⟨pl.k, pl.p, pl.q + j⟩ = some (.own d) ∧ Whole d) ∨ st.cellAt ⟨pl.k, pl.p, pl.q + j⟩ = some (.ro d))
      (h0 : 0 < ds.length) : Snap st (.one (.ptr pl)) (.one (.cptr ds))
  | fn (f : FuncId) : Snap st (.fn f []) (.fn f [])

section
variable {P : Program} {w0 : World} {g0 : Gh} {st : St} {a : Act} {w : World} {g : Gh}

theorem Rel.roLt (hR : Rel w0 g0 st a w g) : ∀ b, g.o b = .ro → b < w.heap.size := fun b hb => by
  rcases Nat.lt_or_ge b w.heap.size with h | h
  · exact h
  · rw [hR.ks.fresh b h] at hb; cases hb

theorem Rel.snap (hR : Rel w0 g0 st a w g) {t t' : TS} {u : Value} (hs : Snap st t t') (hu : RepS w g t u) (g' : Gh) (hg : g'.o = allRo w) : RepS w g' t' u := by
  have hro : ∀ d v, Ro w g.o d v → Ro w g'.o d v := fun d v h => by rw [hg]; exact h.all hR.roLt
  have hown : ∀ pl d, st.cellAt pl = some (.own d) → Whole d → Ro w g'.o d (g.cv pl.k pl.p pl.q) := fun pl d h hw => by rw [hg]; exact ((hR.cellAt h).1 d rfl).ro hw
  cases hs with
  | ro d =>
    cases hu with
    | one _ _ h =>
      cases h with
      | c _ _ h => exact .one _ _ (.c (.ro d) _ (hro d _ h))
  | ref pl d hc hw =>
    cases hu with
    | one _ _ h =>
      cases h with
      | c _ _ h =>
        have h1 : u = g.cv pl.k pl.p pl.q := h.1
        rw [h1]
        exact .one _ _ (.c (.ro d) _ (hown pl d hc hw))
  | agg cs cs' hl h =>
    cases hu with
    | one _ _ hu =>
      cases hu with
      | agg _ us hsz hv =>
        refine .one _ _ (.agg cs' us (by rw [hl]; exact hsz) fun j c' u' hj hu' => ?_)
        have hj' : j < cs.length := by rw [← hl]; exact (List.getElem?_eq_some_iff.1 hj).1
        have hcj : cs[j]? = some cs[j] := List.getElem?_eq_getElem hj'
        have h1 := hv j _ u' hcj hu'
        rcases h j _ c' hcj hj with ⟨d, e1, e2⟩ | ⟨pl, d, e1, e2, h3, h4⟩
        · rw [e1] at h1
          subst e2
          exact hro d _ h1
        · rw [e1] at h1
          subst e2
          have h5 : u' = g.cv pl.k pl.p pl.q := h1.1
          rw [h5]
          exact hown pl d h3 h4
  | cptr ds =>
    cases hu with
    | one _ _ hu =>
      cases hu with
      | cptr _ b off us ho hcell =>
        exact .one _ _ (.cptr ds b off us (by rw [hg]; simp [allRo, hR.roLt b ho]) fun j d hj => ⟨(hcell j d hj).1, hro d _ (hcell j d hj).2⟩)
  | ptr pl ds hm h h0 =>
    cases hu with
    | one _ _ hu =>
      cases hu with
      | ptr _ =>
        have hmj : ∀ j, st.isMem ⟨pl.k, pl.p, pl.q + j⟩ = true := fun j => hm
        have key : ∀ (j : Nat) d, ds[j]? = some d → w.cell? (cellAddr (g.ad pl.k pl.p) (pl.q + j)) = some (g.cv pl.k pl.p (pl.q + j)) ∧ Ro w g'.o d (g.cv pl.k pl.p (pl.q + j)) ∧ (g.ad pl.k pl.p).1 < w.heap.size := fun j d hj => by
          rcases h j d hj with ⟨h1, h2⟩ | h1
          · have h3 := hR.cellAt h1
            obtain ⟨cs, e, h4⟩ := (h3.2.2.2 (hmj j)).2
            exact ⟨h3.2.2.1 (hmj j), hown _ d h1 h2, lt_of_heap h4⟩
          · have h3 := hR.cellAt h1
            obtain ⟨cs, e, h4⟩ := (h3.2.2.2 (hmj j)).2
            exact ⟨h3.2.2.1 (hmj j), hro d _ h3.2.1, lt_of_heap h4⟩
        have hlt : (g.ad pl.k pl.p).1 < w.heap.size := (key 0 ds[0] (List.getElem?_eq_getElem h0)).2.2
        refine .one _ _ (.cptr ds (g.ad pl.k pl.p).1 ((g.ad pl.k pl.p).2 + pl.q) (fun j => g.cv pl.k pl.p (pl.q + j)) (by rw [hg]; simp [allRo, hlt]) fun j d hj => ?_)
        have := key j d hj
        refine ⟨?_, this.2.1⟩
        rw [Nat.add_assoc]
        exact this.1
  | fn f =>
    cases hu with
    | fn _ _ us hs h => exact .fn f [] us hs fun j t u h1 _ => by simp at h1

end

/-- A RESULT: the cells that it owns, and the value, told from the root that bears them. -/
structure Res where
  row : List D
  val : Nat → TS

/-- WHAT A CALL GIVES: a result; what was there is as it was; all else that is new is the result's or nobody's. -/
structure Gives (w : World) (k : Nat) (r : Res) (v : Value) (w' : World) (g' : Gh) : Prop where
  os : w'.os = w.os
  tape : w'.tape = w.tape
  output : w'.output = w.output
  size : w.heap.size ≤ w'.heap.size
  block : ∀ b, b < w.heap.size → w'.heap[b]? = w.heap[b]?
  own : ∀ b, w.heap.size ≤ b → b < w'.heap.size → g'.o b = .ro ∨ (g'.o b).root? = some k
  old : ∀ b, (g'.o b).root? = some k → w.heap.size ≤ b ∧ b < w'.heap.size
  row : ∀ (q : Nat) d, r.row[q]? = some d → Ow w' g' k [] q d
  val : RepS w' g' (r.val k) v

/-- THE CONTRACT of a function that leaves alone what was there. -/
def Fun (P : Program) (f : FuncId) (pts : List TS) (R : Res → Prop) : Prop :=
  ∀ (w : World) (g : Gh) (args : Array Value) (k : Nat), g.o = allRo w → args.size = pts.length → (∀ (i : Nat) t u, pts[i]? = some t → args[i]? = some u → RepS w g t u) →
    Calls P f args w fun e w' => ∃ v r g', e = .returned v ∧ R r ∧ Gives w k r v w' g'

/-- The same, at one world. -/
def FunAt (P : Program) (f : FuncId) (pts : List TS) (R : Res → Prop) (w : World) : Prop :=
  ∀ (g : Gh) (args : Array Value) (k : Nat), g.o = allRo w → args.size = pts.length → (∀ (i : Nat) t u, pts[i]? = some t → args[i]? = some u → RepS w g t u) →
    Calls P f args w fun e w' => ∃ v r g', e = .returned v ∧ R r ∧ Gives w k r v w' g'

/-- Worlds that hold what nobody writes as it was. -/
def Kept (w0 : World) (g0 : Gh) (w : World) : Prop := w0.heap.size ≤ w.heap.size ∧ ∀ b, b < w0.heap.size → g0.o b = .ro → w.heap[b]? = w0.heap[b]?
theorem Keeps.kept {w0 w : World} {g0 g : Gh} (h : Keeps w0 g0 w g) : Kept w0 g0 w := ⟨h.size, fun b hb ho => (h.block b hb (.inl ho)).1⟩

/-- The contract as a caller needs it. -/
def FunK (P : Program) (w0 : World) (g0 : Gh) (f : FuncId) (pts : List TS) (R : Res → Prop) : Prop := ∀ w, Kept w0 g0 w → FunAt P f pts R w
theorem Fun.k {P : Program} {w0 : World} {g0 : Gh} {f : FuncId} {pts : List TS} {R : Res → Prop} (h : Fun P f pts R) : FunK P w0 g0 f pts R := fun w _ => h w

/-- THE CONTRACT of a function that needs something of the world (a table of the library's). -/
def FunW (C : World → Prop) (P : Program) (f : FuncId) (pts : List TS) (R : Res → Prop) : Prop := ∀ w, C w → FunAt P f pts R w
theorem FunW.k {C : World → Prop} {P : Program} {w0 : World} {g0 : Gh} {f : FuncId} {pts : List TS} {R : Res → Prop} (h : FunW C P f pts R) (hC : ∀ w, Kept w0 g0 w → C w := by assumption) : FunK P w0 g0 f pts R := fun w hw => h w (hC w hw)

/-- Plain values and references to the result's own cells. -/
def okC (k n : Nat) : C → Bool
  | .ro (.v _) => true
  | .ref pl => pl.k == k && pl.p.isEmpty && decide (pl.q < n)
  | .dead => true
  | _ => false
def okV (k n : Nat) : TV → Bool
  | .c x => okC k n x
  | .agg cs => cs.all (okC k n)
  | _ => false
def okS (k n : Nat) : TS → Bool
  | .one t => okV k n t
  | .tup ts => ts.all (okV k n)
  | _ => false

section
variable {P : Program} {w0 : World} {g0 : Gh} {st : St} {a : Act} {w w' : World} {g g' : Gh}

/-- The caller's state behind a call. -/
def St.called (st : St) (k : Nat) (r : Res) : St := st.fresh k ⟨false, r.row.map C.own⟩

theorem Rel.called (hR : Rel w0 g0 st a w g) {k : Nat} (hkp : k < 1000000) {r : Res} {v : Value} (hG : Gives w k r v w' g') (hok : okS k r.row.length (r.val k) = true) :
    ∃ g2, Rel w0 g0 (st.called k r) a w' g2 ∧ RepS w' g2 (r.val k) v := by
  let g2 : Gh :=
    { o := fun b => if b < w.heap.size then g.o b else if b < w'.heap.size then g'.o b else .outer
      ad := fun k' => if k' = k then g'.ad k else g.ad k'
      cv := fun k' => if k' = k then g'.cv k else g.cv k' }
  have hK1 : pinK ≠ k := by simp only [pinK]; omega
  have hB1 : pinB ≠ k := by simp only [pinB]; omega
  have ho : ∀ b, b < w.heap.size → g2.o b = g.o b := fun b hb => if_pos hb
  have hlt : ∀ b, g.o b ≠ .outer → b < w.heap.size := fun b hb => by
    rcases Nat.lt_or_ge b w.heap.size with h | h
    · exact h
    · exact absurd (hR.ks.fresh b h) hb
  have hS : Same w g w' g2 (· ≠ k) := by
    refine ⟨fun b hb => ?_, fun k' hk' b hb => ?_, fun k' hk' => if_neg hk', fun k' hk' => if_neg hk'⟩
    · have := hlt b (by rw [hb]; simp)
      exact ⟨by rw [ho b this]; exact hb, hG.block b this⟩
    · have := hlt b (fun e => by rw [e] at hb; cases hb)
      exact ⟨ho b this, hG.block b this⟩
  have hnew : ∀ b, w.heap.size ≤ b → b < w'.heap.size → g2.o b ≠ .outer := fun b h1 h2 h3 => by
    simp only [g2, if_neg (Nat.not_lt.2 h1), if_pos h2] at h3
    rcases hG.own b h1 h2 with h | h
    · rw [h] at h3; cases h3
    · rw [h3] at h; cases h
  have hK : Keeps w0 g0 w' g2 := by
    refine ⟨hG.os.trans hR.ks.os, hG.tape.trans hR.ks.tape, hG.output.trans hR.ks.output, Nat.le_trans hR.ks.size hG.size, fun b hb hx => ?_, fun b hb => ?_, fun b hb hx => ?_, ⟨fun q => ?_, ?_⟩, fun b hb => ?_⟩
    · have h1 : b < w.heap.size := by have := hR.ks.size; omega
      rw [ho b h1, hG.block b h1]
      exact hR.ks.block b hb hx
    · have h1 : ¬ b < w.heap.size := by have := hG.size; omega
      simp only [g2, if_neg h1, if_neg (Nat.not_lt.2 hb)]
    · by_cases h1 : b < w.heap.size
      · rw [ho b h1] at hx
        exact hR.ks.old b h1 hx
      · exact absurd hx (hnew b (by omega) hb)
    · simp only [g2, if_neg hK1]; exact hR.ks.pin.1 q
    · simp only [g2, if_neg hB1]; exact hR.ks.pin.2
    · by_cases h1 : b < w.heap.size
      · rw [ho b h1] at hb
        exact hR.ks.nobox b hb
      · by_cases h2 : b < w'.heap.size
        · simp only [g2, if_neg h1, if_pos h2] at hb
          rcases hG.own b (by omega) h2 with h | h
          · rw [h] at hb; cases hb
          · rw [hb] at h
            simp only [Tag.root?, Option.some.injEq] at h
            exact hK1 h
        · simp only [g2, if_neg h1, if_neg h2] at hb
          cases hb
  have hok2 : ∀ b, (g'.o b).root? = some k → g2.o b = g'.o b := fun b hb => by
    obtain ⟨h1, h2⟩ := hG.old b hb
    simp only [g2, if_neg (Nat.not_lt.2 h1), if_pos h2]
  have hcvk : g2.cv k = g'.cv k := by simp [g2]
  have hadk : g2.ad k = g'.ad k := by simp [g2]
  have hOw : ∀ q d, Ow w' g' k [] q d → Ow w' g2 k [] q d := fun q d h => by
    refine Ow.move h ⟨by rw [hcvk], fun i r q' => by rw [hcvk], fun i r => by rw [hadk], fun b hb => ⟨?_, rfl⟩, fun b i r q' hb => ⟨?_, rfl⟩⟩
    · rw [hok2 b (by rw [hb]; rfl)]; exact hb
    · rw [hok2 b (by rw [hb]; rfl)]; exact hb
  refine ⟨g2, hR.grow hS hK (fun q c hq => ?_) (fun h => by cases h), ?_⟩
  · rw [List.getElem?_map, Option.map_eq_some_iff] at hq
    obtain ⟨d, hq, rfl⟩ := hq
    exact hOw q d (hG.row q d hq)
  · have hC : ∀ c u, okC k r.row.length c = true → RepV w' g' c u → RepV w' g2 c u := fun c u h1 h2 => by
      cases c with
      | ro d =>
        cases d with
        | v x =>
          have h3 : Ro w' g'.o (.v x) u := h2
          cases h3 with
          | v _ hp => exact Ro.v _ hp
        | _ => cases h1
      | own d => exact h2
      | ref pl =>
        simp only [okC, Bool.and_eq_true, beq_iff_eq] at h1
        obtain ⟨⟨h3, _⟩, _⟩ := h1
        show u = g2.cv pl.k pl.p pl.q ∧ u.oneCell' = true
        rw [h3, hcvk, ← h3]
        exact h2
      | dead => trivial
    have hT : ∀ t u, okV k r.row.length t = true → RepT w' g' t u → RepT w' g2 t u := fun t u h1 h2 => by
      cases h2 with
      | c c u hv => exact .c c u (hC c u h1 hv)
      | agg cs us hs hv => exact .agg cs us hs fun j c u h3 h4 => hC c u (List.all_eq_true.1 h1 c (List.mem_of_getElem? h3)) (hv j c u h3 h4)
      | ptr pl => cases h1
      | tab pls b off hro hcell => cases h1
      | ptab pls b off hro hcell => cases h1
      | cptr ds b off us ho hcell => cases h1
      | dead u => exact .dead u
    have hv := hG.val
    generalize r.val k = t at hok hv
    cases hv with
    | one t u h => exact .one t _ (hT t _ hok h)
    | tup ts us hs h => exact .tup ts us hs fun j t u h3 h4 => hT t u (List.all_eq_true.1 hok t (List.mem_of_getElem? h3)) (h j t u h3 h4)
    | fn f caps us hs h => cases hok

/-- Several operands at once. -/
def opds (st : St) : List Operand → Option (List TS)
  | [] => some []
  | x :: l => match opd 0 st x, opds st l with | some t, some ts => some (t :: ts) | _, _ => none

theorem Rel.opds (hR : Rel w0 g0 st a w g) : ∀ {l : List Operand} {ts : List TS}, T.opds st l = some ts → ts.length = l.length ∧ ∀ (i : Nat) t u, ts[i]? = some t → (l.map a.eval)[i]? = some u → RepS w g t u
  | [], ts, h => by
    simp only [T.opds, Option.some.injEq] at h
    subst h
    exact ⟨rfl, fun i t u hi => by simp at hi⟩
  | x :: l, ts, h => by
    simp only [T.opds] at h
    split at h
    · rename_i t1 ts1 h1 h2
      simp only [Option.some.injEq] at h
      subst h
      have ih := Rel.opds hR h2
      refine ⟨by simp [ih.1], fun i t u hi hu => ?_⟩
      cases i with
      | zero =>
        simp only [List.getElem?_cons_zero, Option.some.injEq, List.map_cons] at hi hu
        subst hi; subst hu
        exact hR.opd h1
      | succ i => exact ih.2 i t u (by simpa using hi) (by simpa using hu)
    · cases h

inductive Snaps (st : St) : List TS → List TS → Prop
  | nil : Snaps st [] []
  | cons {t t' : TS} {ts ts' : List TS} (h : Snap st t t') (hs : Snaps st ts ts') : Snaps st (t :: ts) (t' :: ts')

theorem Snaps.get {ts ts' : List TS} (h : Snaps st ts ts') : ts'.length = ts.length ∧ ∀ (i : Nat) t', ts'[i]? = some t' → ∃ t, ts[i]? = some t ∧ Snap st t t' := by
  induction h with
  | nil => exact ⟨rfl, fun i t' hi => by simp at hi⟩
  | cons h hs ih =>
    refine ⟨by simp [ih.1], fun i t' hi => ?_⟩
    cases i with
    | zero =>
      simp only [List.getElem?_cons_zero, Option.some.injEq] at hi
      subst hi
      exact ⟨_, rfl, h⟩
    | succ i => exact ih.2 i t' (by simpa using hi)

variable {o : Oper} {Q : St → Prop}

/-- A CALL BY ITS CONTRACT. -/
theorem OpT.call {f : FuncId} {args : List Operand} {tys : Array TypeId} {fn : Func} (ho : o.op = .call { callee := .value (.func f), args := args.toArray, argTypes := tys }) (hf : P.funcs[f]? = some fn) (hb : fn.body.isNone = false)
    (hn : (fn.name == "runtime.NumGoroutine") = false) {k : Nat} (hd : o.dst = some k) {ts ts' : List TS} (hx : opds st args = some ts) (hs : Snaps st ts ts') {R : Res → Prop} (hc : FunK P w0 g0 f ts' R)
    (hok : ∀ r, R r → okS k r.row.length (r.val k) = true) (hq : ∀ r, R r → Q ((st.called k r).put (some k) (r.val k))) (hkp : k < 1000000 := by decide) : OpT P w0 g0 o st Q := fun a w g hR K Q' hK => by
  have h1 := hR.opds hx
  have h2 := hs.get
  have hcall := hc w hR.ks.kept { g with o := allRo w } (args.map a.eval).toArray k rfl (by simp [h1.1, h2.1]) (fun i t' u hi hu => by
    obtain ⟨t, h3, h4⟩ := h2.2 i t' hi
    exact hR.snap h4 (h1.2 i t u h3 (by simpa using hu)) _ rfl)
  unfold Oper.wp
  have hrun : (execOp a.eval o).run P w = .ok (.enter f (args.map a.eval).toArray) w := by
    have he : a.eval (.func f) = .func (.func f) #[] #[] := rfl
    have hn' : ¬ fn.name = "runtime.NumGoroutine" := by simpa using hn
    have hb' : ¬ fn.body = none := fun e => by rw [e] at hb; cases hb
    simp [execOp, ho, resolve, he, Deferred.ofValue, invoke, callFunc, hf, hn', hb']
  rw [hrun]
  refine hcall.mono fun e w' ⟨v, r, g', he, hr, hG⟩ => ?_
  subst he
  obtain ⟨g2, hR2, hv2⟩ := hR.called hkp hG (hok r hr)
  refine hK _ _ _ g2 (hq r hr) ?_
  rw [hd]
  exact hR2.put hv2 (some k)

end
end Go.Proofs.YtdlpmcjpbcbbjaaDoor.T
