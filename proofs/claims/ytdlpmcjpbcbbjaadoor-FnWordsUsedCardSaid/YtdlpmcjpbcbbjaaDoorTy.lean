/- The lifted walk, part y: structs put together; operations that their guards pass over. No condition. -/
import Derived.Test.YtdlpmcjpbcbbjaaDoorTx
import Derived.Laws.Tables
namespace Go.Proofs.YtdlpmcjpbcbbjaaDoor.T
open Go
set_option linter.unusedVariables false
set_option linter.unusedSimpArgs false

/- WHAT A GUARD PASSES OVER holds no value at all -/
abbrev U : TS := .tup []

section
variable {P : Program} {w0 : World} {g0 : Gh} {st : St}

theorem U_mk {w : World} {g : Gh} : RepS w g U undef := .tup [] #[] rfl (fun j t u h _ => by simp at h)
theorem U_inv {w : World} {g : Gh} {u : Value} (h : RepS w g U u) : u = undef := by
  cases h with
  | tup _ us hs _ =>
    have : us = #[] := Array.eq_empty_of_size_eq_zero (by simpa using hs)
    rw [this]
    rfl

theorem yielded_none {ops : Array Oper} {a : Act} {w : World} {g : Gh} (hR : Rel w0 g0 st a w g) {j : Nat} (h : guardOf ops st j = some U) : yielded ops a.tmps j = none := by
  unfold guardOf at h
  unfold yielded
  cases hd : (ops[j]?).bind (·.dst) with
  | none => rw [hd] at h; cases h
  | some d =>
    rw [hd] at h
    simp only [Option.bind_some] at h ⊢
    have h1 := U_inv (hR.tm d _ h)
    rw [Array.getD_eq_getD_getElem?] at h1
    cases h2 : a.tmps[d]? with
    | none => rfl
    | some v =>
      rw [h2] at h1
      simp only [Option.getD_some] at h1
      subst h1
      rfl

/-- The operation is passed over. -/
def nope (ops : Array Oper) (st : St) (o : Oper) : Prop := ∃ j want, o.guard = some (j, want) ∧ (guardOf ops st j = some U ∨ ∃ b, guardOf ops st j = some (V (.bool b)) ∧ b = !want)
theorem nope_b {ops : Array Oper} {o : Oper} {j : Nat} {want b : Bool} (hg : o.guard = some (j, want)) (hb : guardOf ops st j = some (V (.bool b))) (he : b = !want) : nope ops st o := ⟨j, want, hg, .inr ⟨b, hb, he⟩⟩
theorem nope_u {ops : Array Oper} {o : Oper} {j : Nat} {want : Bool} (hg : o.guard = some (j, want)) (hb : guardOf ops st j = some U) : nope ops st o := ⟨j, want, hg, .inl hb⟩
theorem nope_of {ops : Array Oper} {o : Oper} {a : Act} {w : World} {g : Gh} (h : nope ops st o) (hR : Rel w0 g0 st a w g) : Region.wanted o (yielded ops a.tmps) = false := by
  obtain ⟨j, want, hg, h | ⟨b, hb, he⟩⟩ := h
  · simp [Region.wanted, hg, yielded_none hR h]
  · simp [Region.wanted, hg, yielded_of hR hb, he]

theorem TL.skip {ops : Array Oper} {o : Oper} {rest : List Oper} {st' : St} {Q : St → Prop} (hn : nope ops st o) (hp : st.put o.dst U = st') (h : TL P w0 g0 ops rest st' Q) : TL P w0 g0 ops (o :: rest) st Q :=
  fun a w g hR Q' hQ => wpList_step fun K hK => by
    rw [if_neg (by simp [nope_of hn hR])]
    exact hK _ _ (h _ _ _ (hp ▸ hR.put U_mk o.dst) Q' hQ)
theorem TQ.skip {ops : Array Oper} {o : Oper} {rest : List Oper} {st' : St} {Q : St → Prop} (hn : nope ops st o) (hp : st.put o.dst U = st') (h : TQ P w0 g0 ops rest st' Q) : TQ P w0 g0 ops (o :: rest) st Q :=
  fun a w g hR Q' hQ => by
    refine wpQuiet_step fun K hK => ?_
    rw [if_neg (by simp [nope_of hn hR])]
    exact hK _ (h _ _ _ (hp ▸ hR.put U_mk o.dst) Q' hQ)
theorem TX.skip {ops : Array Oper} {i : Nat} {b : Bool} {l : List (Nat × Bool)} {st' : St} {Q : St → Prop} {o : Oper} {tl : List Oper} (hd0 : ops.toList.drop i = o :: tl) (hn : nope ops st o) (hp : st.put o.dst U = st')
    (hq : TX P w0 g0 ops l st' Q) : TX P w0 g0 ops ((i, b) :: l) st Q := TX.quiet hd0 (fun a w g hR => ⟨undef, .inr ⟨nope_of hn hR, rfl⟩, hp ▸ hR.put U_mk o.dst⟩) hq

/- STRUCTS PUT TOGETHER -/
/-- Cells and their values. -/
def RC (w : World) (g : Gh) (cs : List C) (us : List Value) : Prop := us.length = cs.length ∧ ∀ (j : Nat) c u, cs[j]? = some c → us[j]? = some u → RepV w g c u

theorem RC.append {w : World} {g : Gh} {a b : List C} {x y : List Value} (h : RC w g a x) (h' : RC w g b y) : RC w g (a ++ b) (x ++ y) := by
  refine ⟨by simp [h.1, h'.1], fun j c u hc hu => ?_⟩
  rcases Nat.lt_or_ge j a.length with hj | hj
  · rw [List.getElem?_append_left hj] at hc
    rw [List.getElem?_append_left (by rw [h.1]; exact hj)] at hu
    exact h.2 j c u hc hu
  · rw [List.getElem?_append_right hj] at hc
    rw [List.getElem?_append_right (by rw [h.1]; exact hj), h.1] at hu
    exact h'.2 _ c u hc hu
theorem RC.take {w : World} {g : Gh} {a : List C} {x : List Value} (n : Nat) (h : RC w g a x) : RC w g (a.take n) (x.take n) := by
  refine ⟨by simp [h.1], fun j c u hc hu => ?_⟩
  rw [List.getElem?_take] at hc hu
  split at hc
  · rename_i hj
    rw [if_pos hj] at hu
    exact h.2 j c u hc hu
  · cases hc
theorem RC.drop {w : World} {g : Gh} {a : List C} {x : List Value} (n : Nat) (h : RC w g a x) : RC w g (a.drop n) (x.drop n) := by
  refine ⟨by simp [h.1], fun j c u hc hu => ?_⟩
  rw [List.getElem?_drop] at hc hu
  exact h.2 _ c u hc hu

theorem fold_set (off : Nat) : ∀ (l : List Value) (k : Nat) (cs : Array Value), off + k + l.length ≤ cs.size →
    ((l.zipIdx k).foldl (fun cs (p : Value × Nat) => cs.setIfInBounds (off + p.2) p.1) cs).toList = cs.toList.take (off + k) ++ l ++ cs.toList.drop (off + k + l.length)
  | [], k, cs, h => by simp
  | v :: l, k, cs, h => by
    simp only [List.length_cons] at h
    have ih := fold_set off l (k + 1) (cs.setIfInBounds (off + k) v) (by simp; omega)
    rw [List.zipIdx_cons, List.foldl_cons, ih]
    simp only [Array.toList_setIfInBounds, List.length_cons]
    have h1 : off + (k + 1) = off + k + 1 := by omega
    rw [h1, List.take_add_one, List.take_set_of_le (by omega), List.getElem?_set_self (by simp; omega), List.drop_set_of_lt (by omega)]
    simp only [Option.toList_some, List.append_assoc, List.singleton_append, List.cons_append, List.nil_append]
    rw [show off + k + 1 + l.length = off + k + (l.length + 1) by omega]

/-- The value's cells. -/
def partC (st : St) (x : Operand) : Option (List C) :=
  match T.opd 1 st x with
  | some (.one (.c .dead)) => none
  | some (.one (.c c)) => some [c]
  | some (.one (.agg cs)) => some cs
  | _ => none
def partsC (st : St) : List (Nat × Operand) → Option (List (Nat × List C))
  | [] => some []
  | (i, x) :: l => match partC st x, partsC st l with | some c, some r => some ((i, c) :: r) | _, _ => none
def fillC (place : List (Nat × Nat)) (cs : List C) : List (Nat × List C) → Option (List C)
  | [] => some cs
  | (i, l) :: rest =>
    match place[i]? with
    | none => none
    | some (off, size) => if Nat.beq l.length size && Nat.ble (off + l.length) cs.length then fillC place (cs.take off ++ l ++ cs.drop (off + l.length)) rest else none

theorem partC_rep {a : Act} {w : World} {g : Gh} (hR : Rel w0 g0 st a w g) {x : Operand} {cs : List C} (h : partC st x = some cs) : RC w g cs (a.eval x).cells.toList := by
  unfold partC at h
  split at h
  · cases h
  · rename_i c hne hx
    simp only [Option.some.injEq] at h
    subst h
    have h1 := hR.opd hx
    cases h1 with
    | one _ _ h1 =>
      cases h1 with
      | c _ _ h1 =>
        rw [cells_one (h1.one (fun e => by subst e; first | exact hne rfl | exact hne _ hx | exact hne))]
        refine ⟨rfl, fun j c u hc hu => ?_⟩
        cases j with
        | zero => simp only [List.getElem?_cons_zero, Option.some.injEq] at hc hu; subst hc; subst hu; exact h1
        | succ j => simp at hc
  · rename_i cs' hx
    simp only [Option.some.injEq] at h
    subst h
    have h1 := hR.opd hx
    generalize a.eval x = v at h1
    cases h1 with
    | one _ _ h1 =>
      cases h1 with
      | agg _ us hs hv => exact ⟨by simpa [Value.cells] using hs, fun j c u hc hu => hv j c u hc (by simpa [Value.cells] using hu)⟩
  · cases h

theorem fillC_rep {a : Act} {w : World} {g : Gh} (hR : Rel w0 g0 st a w g) {place : List (Nat × Nat)} : ∀ {l : List (Nat × Operand)} {pc : List (Nat × List C)} {cs cs' : List C} {us : Array Value}, partsC st l = some pc →
    fillC place cs pc = some cs' → RC w g cs us.toList → ∃ us' : Array Value, Instr.fill (place.toArray[·]?) us (l.map fun p => (p.1, a.eval p.2)) = some us' ∧ RC w g cs' us'.toList
  | [], pc, cs, cs', us, h1, h2, h3 => by
    simp only [partsC, Option.some.injEq] at h1
    subst h1
    simp only [fillC, Option.some.injEq] at h2
    subst h2
    exact ⟨us, rfl, h3⟩
  | (i, x) :: l, pc, cs, cs', us, h1, h2, h3 => by
    simp only [partsC] at h1
    split at h1
    · rename_i c r hc hr
      simp only [Option.some.injEq] at h1
      subst h1
      simp only [fillC] at h2
      split at h2
      · cases h2
      · rename_i off size hp
        split at h2
        · rename_i hb
          simp only [Bool.and_eq_true] at hb
          have hb1 := Nat.eq_of_beq_eq_true hb.1
          have hb2 := Nat.le_of_ble_eq_true hb.2
          have hx := partC_rep hR hc
          have hxl : (a.eval x).cells.size = c.length := by simpa using hx.1
          have hul : us.size = cs.length := by simpa using h3.1
          have hfold := fold_set off (a.eval x).cells.toList 0 us (by simp; omega)
          simp only [Nat.add_zero] at hfold
          have hl : (a.eval x).cells.toList.length = c.length := hx.1
          rw [hl] at hfold
          obtain ⟨us', e1, e2⟩ := fillC_rep hR hr h2 (us := (((a.eval x).cells.toList.zipIdx).foldl (fun cs (p : Value × Nat) => cs.setIfInBounds (off + p.2) p.1) us)) (by
            rw [hfold]
            exact ((h3.take off).append hx).append (h3.drop _))
          refine ⟨us', ?_, e2⟩
          rw [← e1]
          have hp' : place.toArray[i]? = some (off, size) := by simpa using hp
          simp only [List.map_cons, Instr.fill, hp']
          rw [if_neg (by simp; omega)]
          congr 1
          rw [← Array.foldl_toList, Array.toList_zipIdx]
        · cases h2
    · cases h1

theorem Val.build {o : Oper} {t : TypeId} {parts : List (Nat × Operand)} (ho : o.op = .build t parts.toArray) {pc : List (Nat × List C)} (hp : partsC st parts = some pc) {fs : Array Field} (hu : P.underlying t = some (.struct fs))
    {it : TypeInfo} (hi : P.info? t = some it) {z : Value} (hz : it.zero = some z) {row : List D} (hrow : zeroD P 6 t = some row) (hv : z.cells.toList = row.map zeroV) (hok : row.all zeroOk = true)
    {place : List (Nat × Nat)} (hpl : fs.toList.mapM (fun f => (P.info? f.type).map fun i => (f.offset, i.size)) = some place) {cs : List C} (hf : fillC place (row.map C.ro) pc = some cs) : Val P w0 g0 o st (.one (.agg cs)) :=
  fun a w g hR => by
    have hz0 : RC w g (row.map C.ro) z.cells.toList := by
      refine ⟨by rw [hv]; simp, fun j c u hc hu => ?_⟩
      rw [hv] at hu
      rw [List.getElem?_map, Option.map_eq_some_iff] at hc hu
      obtain ⟨d, hd, rfl⟩ := hc
      obtain ⟨d', hd', rfl⟩ := hu
      rw [hd] at hd'
      cases hd'
      have hk := List.all_eq_true.1 hok d (List.mem_of_getElem? hd)
      cases d with
      | v x => exact Ro.v x hk
      | sl sz ds =>
        cases ds with
        | nil => exact Ro.nil sz none 0
        | cons _ _ => cases hk
      | _ => cases hk
    obtain ⟨us, e1, e2⟩ := fillC_rep hR hp hf hz0
    refine ⟨.agg us, fun w' _ => ?_, .one _ _ (.agg _ us (by simpa using e2.1) fun j c u hc hu => e2.2 j c u hc (by simpa using hu))⟩
    have hb : P.built t (parts.map fun p => (p.1, a.eval p.2)) = some us := by
      unfold Program.built
      simp only [hi, hu, hz, hpl]
      exact e1
    have hrun := run_build (P := P) w' t (parts.toArray.map fun p => (p.1, a.eval p.2)) us (by simpa using hb)
    simp only [List.map_toArray] at hrun
    simp [execOp, ho, hrun]

theorem resL {sz : Nat} {ds ds' : List D} (h : ds = ds') : RL sz ds' ⟨[.sl sz ds], fun k => .one (.c (.ref ⟨k, [], 0⟩))⟩ := by subst h; rfl
end
end Go.Proofs.YtdlpmcjpbcbbjaaDoor.T
