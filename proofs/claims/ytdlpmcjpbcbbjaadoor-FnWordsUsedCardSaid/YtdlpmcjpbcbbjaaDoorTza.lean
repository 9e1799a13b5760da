/- The lifted walk, part za: the rules of calls that write what they are handed; lists that turn from the front. No condition. -/
import Derived.Test.YtdlpmcjpbcbbjaaDoorTz
namespace Go.Proofs.YtdlpmcjpbcbbjaaDoor.T
open Go
set_option linter.unusedVariables false
set_option linter.unusedSimpArgs false

/-- The handed cells behind the call, and a result that hangs on no memory. -/
abbrev RP2 (rows : List D) (t : TS) : List D → Res → Prop := fun rs r => rs = rows ∧ r = ⟨[], fun _ => t⟩

section
variable {P : Program} {w0 : World} {g0 : Gh} {st : St}

theorem CanHand.list {srcs : List (Nat × Nat)} {row : List D} {kd : Nat} (hc : contents st srcs = some row) (hn : srcs.Nodup := by decide) (hk : (srcs.all fun s => s.1 != kd) = true := by decide) (hkd : kd < 1000000 := by decide) :
    CanHand st ⟨false, row⟩ srcs none kd := ⟨hn, hc, hkd, fun s hs => by simpa using List.all_eq_true.1 hk s hs, by simp⟩

theorem contents_box {kb : Nat} {m : Bool} : ∀ {row0 : List D} (row : List D) (q0 : Nat), st.root kb = some ⟨m, row0.map C.own⟩ → (∀ (q : Nat) d, row[q]? = some d → row0[q0 + q]? = some d) → contents st ((List.range' q0 row.length).map fun q => (kb, q)) = some row
  | row0, [], q0, h, hh => rfl
  | row0, d :: row, q0, h, hh => by
    have h1 : st.cellAt ⟨kb, [], q0⟩ = some (.own d) := by
      have := hh 0 d rfl
      simp only [St.cellAt, h, List.getElem?_map]
      rw [show q0 + 0 = q0 from rfl] at this
      rw [this]
      rfl
    have h2 := contents_box (row0 := row0) row (q0 + 1) h fun q d' hq => by
      have := hh (q + 1) d' (by simpa using hq)
      rw [show q0 + 1 + q = q0 + (q + 1) by omega]
      exact this
    simp only [List.length_cons, List.range'_succ, List.map_cons, contents, h1, h2]

theorem CanHand.bx {kb : Nat} {row : List D} {kd : Nat} (hr : st.root kb = some ⟨true, row.map C.own⟩) (hk : kb ≠ kd := by decide) (hkd : kd < 1000000 := by decide) :
    CanHand st ⟨true, row⟩ (boxSrc kb row.length) (some kb) kd := by
  refine ⟨?_, ?_, hkd, fun s hs => ?_, ?_⟩
  · unfold boxSrc List.Nodup
    rw [List.pairwise_map]
    exact List.nodup_range.imp fun hne e => hne (by simpa using e)
  · have := contents_box (row0 := row) row 0 hr (fun q d hq => by simpa using hq)
    rw [← List.range_eq_range'] at this
    exact this
  · unfold boxSrc at hs
    obtain ⟨q, _, rfl⟩ := List.mem_map.1 hs
    exact hk
  · exact ⟨kb, _, rfl, hr, rfl, rfl, by simp, hk⟩

theorem TL.call2 {ops : Array Oper} {o : Oper} {rest : List Oper} {st' : St} {Q : St → Prop} (hg : yes ops st o) {f : FuncId} {cx : Operand} {args : List Operand} {tys : Array TypeId} {fn : Func}
    (ho : o.op = .call { callee := .value cx, args := args.toArray, argTypes := tys }) (hcx : T.opd 0 st cx = some (.fn f [])) (hf : P.funcs[f]? = some fn) (hb : fn.body.isNone = false)
    (hn : (fn.name == "runtime.NumGoroutine") = false) {ts ts' : List TS} (hx : opds st args = some ts) {h : Hand} {rows : List D} {t : TS} {x : Value} (hc : Fun2 P f h ts' (RP2 rows t)) {srcs : List (Nat × Nat)} {bx : Option Nat}
    (hC : CanHand st h srcs bx 999999) (hs : GivesAll st srcs bx h.k ts ts') (hp : freeS t = some x)
    (hpt : (st.handed srcs h.mem rows 999999).put o.dst t = st') (hq : TL P w0 g0 ops rest st' Q) : TL P w0 g0 ops (o :: rest) st Q := fun a w g hR Q' hQ => wpList_step fun K hK => by
  rw [if_pos (yes_of hg hR)]
  have h1 := hR.opds hx
  have h2 := hs.get
  have hcall := hc w (g.hand w.heap.size srcs bx h.k) (args.map a.eval).toArray 999999 (by decide) (hR.handed hC) (by simp [h1.1, h2.1]) (fun i t' u hi hu => by
    obtain ⟨t, h3, h4⟩ := h2.2 i t' hi
    exact hR.giveS hC h4 (h1.2 i t u h3 (by simpa using hu)))
  unfold Oper.wp
  rw [run_enter hR ho hcx hf hb hn w]
  refine hcall.mono fun e w' ⟨v, row', r, g', he, ⟨hr1, hr2⟩, hG⟩ => ?_
  subst he
  subst hr1
  have h5 := hG.val
  rw [hr2] at h5
  have h6 := (freeS_inv hp).1 h5
  subst h6
  obtain ⟨g2, hR2, _, _⟩ := hR.called2 hC hG
  exact hK _ _ (hq _ _ _ (hpt ▸ hR2.put ((freeS_inv hp).2 rfl) o.dst) Q' hQ)
end

/- LISTS THAT TURN FROM THE FRONT -/
def mix {α : Type} (a b : List α) (k : Nat) : List α := a.take k ++ b.drop k
section
variable {α : Type} {a b : List α} {k : Nat}
theorem mix_zero : mix a b 0 = b := by simp [mix]
theorem mix_len (h : a.length = b.length) : (mix a b k).length = b.length := by simp [mix]; omega
theorem mix_get (h : a.length = b.length) : (mix a b k)[k]? = b[k]? := by
  unfold mix
  rcases Nat.lt_or_ge k b.length with hk | hk
  · rw [List.getElem?_append_right (by simp; omega), List.getElem?_drop]
    congr 1
    simp
    omega
  · rw [List.getElem?_append_right (by simp; omega), List.getElem?_drop, List.getElem?_eq_none (by simp; omega), List.getElem?_eq_none hk]
theorem mix_set {x : α} (h : a.length = b.length) (hx : a[k]? = some x) : (mix a b k).set k x = mix a b (k + 1) := by
  have hk := (List.getElem?_eq_some_iff.1 hx).1
  unfold mix
  rw [List.set_append_right _ _ (by simp; omega)]
  have h1 : k - (a.take k).length = 0 := by simp; omega
  rw [h1, List.drop_eq_getElem_cons (by omega), List.set_cons_zero, List.take_add_one, hx]
  simp
theorem mix_all (h : a.length = b.length) (hk : b.length ≤ k) : mix a b k = a := by
  unfold mix
  rw [List.take_of_length_le (by omega), List.drop_eq_nil_of_le hk, List.append_nil]
end

/- A LIST IS TAKEN OUT OF A ROOT's CELL, to stand as a root of its own (nothing happens in memory). -/
def Gh.take (g : Gh) (k1 q1 L : Nat) : Gh where
  o b := match g.o b with
    | .lies k' p q => if k' = k1 then (match p with
        | [] => if q = q1 then .lies L [] 0 else .lies k' [] q
        | (x, i) :: r => if x = q1 then .lies L ((0, i) :: r) q else .lies k' ((x, i) :: r) q)
      else if k' = L then .ro else .lies k' p q
    | .box k' => if k' = L then .ro else .box k'
    | t => t
  ad k' p := if k' = L then (match p with | [] => (0, 0) | (_, i) :: r => g.ad k1 ((q1, i) :: r)) else g.ad k' p
  cv k' p q := if k' = L then (match p with | [] => g.cv k1 [] q1 | (_, i) :: r => g.cv k1 ((q1, i) :: r) q) else g.cv k' p q

def St.take (st : St) (k1 q1 L : Nat) : Option St :=
  match st.root k1 with
  | some r => match r.row[q1]? with
    | some (.own (.sl sz ds)) => some ((st.fresh L ⟨false, [.own (.sl sz ds)]⟩).setRoot k1 ⟨r.mem, (r.row.map (C.kill fun pl => pl.k == L)).set q1 (.ref ⟨L, [], 0⟩)⟩)
    | _ => none
  | none => none

section
variable {P : Program} {w0 : World} {g0 : Gh} {st : St} {a : Act} {w : World} {g : Gh}

theorem Rel.take (hR : Rel w0 g0 st a w g) {k1 q1 L : Nat} {st' : St} (ht : st.take k1 q1 L = some st') (hne : k1 ≠ L) (hL : L < 1000000) : ∃ g1, Rel w0 g0 st' a w g1 := by
  unfold St.take at ht
  split at ht
  · rename_i r hk
    split at ht
    · rename_i sz ds hq
      simp only [Option.some.injEq] at ht
      subst ht
      have hK1 : pinK ≠ L := by simp only [pinK]; omega
      have hB1 : pinB ≠ L := by simp only [pinB]; omega
      refine ⟨g.take k1 q1 L, ?_⟩
      have hro : ∀ b, g.o b = .ro → (g.take k1 q1 L).o b = .ro ∧ w.heap[b]? = w.heap[b]? := fun b hb => ⟨by simp [Gh.take, hb], rfl⟩
      have hcv : ∀ k' p q, k' ≠ L → (g.take k1 q1 L).cv k' p q = g.cv k' p q := fun k' p q h => by simp only [Gh.take, if_neg h]
      have had : ∀ k' p, k' ≠ L → (g.take k1 q1 L).ad k' p = g.ad k' p := fun k' p h => by simp only [Gh.take, if_neg h]
      have hA : Agree w g w (g.take k1 q1 L) (fun pl => pl.k == L) (fun pl => pl.k == L) := ⟨hro, fun pl hp => hcv _ _ _ (by simpa using hp), fun pl hp => had _ _ (by simpa using hp)⟩
      have hOw : ∀ k' q d, k' ≠ L → (k' = k1 → q ≠ q1) → Ow w g k' [] q d → Ow w (g.take k1 q1 L) k' [] q d := fun k' q d h1 h2 h3 => by
        refine Ow.move h3 ⟨hcv _ _ _ h1, fun i r q' => hcv _ _ _ h1, fun i r => had _ _ h1, fun b hb => ⟨?_, rfl⟩, fun b i r q' hb => ⟨?_, rfl⟩⟩
        · simp only [Gh.take, hb]
          by_cases e : k' = k1
          · rw [if_pos e, if_neg (h2 e)]
          · rw [if_neg e, if_neg h1]
        · simp only [Gh.take, hb, List.nil_append]
          by_cases e : k' = k1
          · rw [if_pos e, if_neg (h2 e)]
          · rw [if_neg e, if_neg h1]
      have hcell : ∀ k' q c, k' ≠ L → (k' = k1 → q ≠ q1) → RepC w g k' q c → RepC w (g.take k1 q1 L) k' q (c.kill fun pl => pl.k == L) := fun k' q c h1 h2 h3 => by
        cases c with
        | ro d => show Ro w _ d _; rw [hcv _ _ _ h1]; exact Ro.mono hro h3
        | own d => exact hOw k' q d h1 h2 h3
        | ref pl =>
          have h4 : g.cv k' [] q = g.cv pl.k pl.p pl.q ∧ (g.cv k' [] q).oneCell' = true := h3
          simp only [C.kill]
          by_cases e : pl.k = L
          · rw [if_pos (by simpa using e)]; trivial
          · rw [if_neg (by simpa using e)]
            show (g.take k1 q1 L).cv k' [] q = (g.take k1 q1 L).cv pl.k pl.p pl.q ∧ ((g.take k1 q1 L).cv k' [] q).oneCell' = true
            rw [hcv _ _ _ h1, hcv _ _ _ e]
            exact h4
        | dead => trivial
      have hO : Ow w g k1 [] q1 (.sl sz ds) := hR.rt.cell k1 r hk q1 _ hq
      have hone : (g.cv k1 [] q1).oneCell' = true := by
        cases hO with
        | nil _ _ _ he => rw [he]; rfl
        | sl _ _ _ _ _ _ _ _ _ _ he => rw [he]; rfl
      have hroot : ∀ k' r', ((st.fresh L ⟨false, [.own (.sl sz ds)]⟩).setRoot k1 ⟨r.mem, (r.row.map (C.kill fun pl => pl.k == L)).set q1 (.ref ⟨L, [], 0⟩)⟩).root k' = some r' →
          (k' = k1 ∧ r' = ⟨r.mem, (r.row.map (C.kill fun pl => pl.k == L)).set q1 (.ref ⟨L, [], 0⟩)⟩) ∨ (k' = L ∧ r' = ⟨false, [.own (.sl sz ds)]⟩) ∨ (k' ≠ k1 ∧ k' ≠ L ∧ ∃ r1, st.root k' = some r1 ∧ r' = r1.kill fun pl => pl.k == L) := fun k' r' h => by
        rw [St.root_setRoot] at h
        split at h
        · rename_i e
          simp only [Option.some.injEq] at h
          exact .inl ⟨e, h.symm⟩
        · rename_i e
          rw [St.fresh, St.root_setRoot] at h
          split at h
          · rename_i e2
            simp only [Option.some.injEq] at h
            exact .inr (.inl ⟨e2, h.symm⟩)
          · rename_i e2
            rw [St.root_kill, Option.map_eq_some_iff] at h
            obtain ⟨r1, h1, h2⟩ := h
            exact .inr (.inr ⟨e, e2, r1, h1, h2.symm⟩)
      refine hR.change hA rfl ⟨fun k' r' hk' q c hc => ?_, fun k' r' hk' hm => ?_⟩ ?_
      · rcases hroot k' r' hk' with ⟨rfl, rfl⟩ | ⟨rfl, rfl⟩ | ⟨h1, h2, r1, h3, rfl⟩
        · rw [List.getElem?_set] at hc
          by_cases e : q1 = q
          · subst e
            rw [if_pos rfl] at hc
            split at hc
            · simp only [Option.some.injEq] at hc
              subst hc
              show (g.take k' q1 L).cv k' [] q1 = (g.take k' q1 L).cv L [] 0 ∧ ((g.take k' q1 L).cv k' [] q1).oneCell' = true
              rw [hcv _ _ _ hne]
              exact ⟨by simp [Gh.take], hone⟩
            · cases hc
          · rw [if_neg e, List.getElem?_map, Option.map_eq_some_iff] at hc
            obtain ⟨c1, h4, rfl⟩ := hc
            exact hcell k' q c1 hne (fun _ => fun h => e h.symm) (hR.rt.cell k' r hk q c1 h4)
        · cases q with
          | succ q => simp at hc
          | zero =>
            simp only [List.getElem?_cons_zero, Option.some.injEq] at hc
            subst hc
            refine Ow.move hO ⟨by simp [Gh.take], fun i r q' => by simp [Gh.take], fun i r => by simp [Gh.take], fun b hb => ⟨by simp [Gh.take, hb], rfl⟩, fun b i r q' hb => ⟨by simp [Gh.take, hb], rfl⟩⟩
        · simp only [Rt.kill, List.getElem?_map, Option.map_eq_some_iff] at hc
          obtain ⟨c1, h4, rfl⟩ := hc
          exact hcell k' q c1 h2 (fun e => absurd e h1) (hR.rt.cell k' r1 h3 q c1 h4)
      · have hmem : ∀ k' r1, k' ≠ L → st.root k' = some r1 → r1.mem = true → (g.take k1 q1 L).o ((g.take k1 q1 L).ad k' []).1 = .box k' ∧ (∃ cs e, w.heap[((g.take k1 q1 L).ad k' []).1]? = some (.cells cs e (0, 0))) ∧
            ∀ q, q < r1.row.length → w.cell? (cellAddr ((g.take k1 q1 L).ad k' []) q) = some ((g.take k1 q1 L).cv k' [] q) := fun k' r1 h1 h2 h3 => by
          obtain ⟨m1, m2, m3⟩ := hR.rt.mem k' r1 h2 h3
          rw [had _ _ h1]
          refine ⟨by simp only [Gh.take, m1, if_neg h1], m2, fun q hq => ?_⟩
          rw [hcv _ _ _ h1]
          exact m3 q hq
        rcases hroot k' r' hk' with ⟨rfl, rfl⟩ | ⟨rfl, rfl⟩ | ⟨h1, h2, r1, h3, rfl⟩
        · obtain ⟨m1, m2, m3⟩ := hmem k' r hne hk hm
          exact ⟨m1, m2, fun q hq => m3 q (by simpa using hq)⟩
        · cases hm
        · obtain ⟨m1, m2, m3⟩ := hmem k' r1 h2 h3 hm
          exact ⟨m1, m2, fun q hq => m3 q (by simpa [Rt.kill] using hq)⟩
      · have hk0 := hR.ks
        refine ⟨hk0.os, hk0.tape, hk0.output, hk0.size, fun b hb hx => ?_, fun b hb => ?_, fun b hb hx => ?_, ⟨fun q => ?_, ?_⟩, fun b hb => ?_⟩
        · obtain ⟨h1, h2⟩ := hk0.block b hb hx
          refine ⟨h1, ?_⟩
          rcases hx with hx | hx <;> simp [Gh.take, h2, hx]
        · simp [Gh.take, hk0.fresh b hb]
        · refine hk0.old b hb ?_
          revert hx
          simp only [Gh.take]
          split
          · split
            · split <;> split <;> simp
            · split <;> simp
          · split <;> simp
          · exact fun h => h
        · rw [hcv _ _ _ hK1]; exact hk0.pin.1 q
        · rw [had _ _ hB1]; exact hk0.pin.2
        · revert hb
          simp only [Gh.take]
          split
          · split
            · split <;> split <;> simp
            · split <;> simp
          · rename_i k' hb0
            split
            · simp
            · intro hb
              simp only [Tag.box.injEq] at hb
              subst hb
              exact hk0.nobox b hb0
          · rename_i h1 h2
            intro hb
            exact hk0.nobox b hb
    · cases ht
  · cases ht

theorem TC.take {c : Code} {st' : St} {Q : Exit → St → Prop} (k1 q1 L : Nat) (ht : st.take k1 q1 L = some st') (hc : TC P w0 g0 c st' Q) (hne : k1 ≠ L := by decide) (hL : L < 1000000 := by decide) : TC P w0 g0 c st Q := fun a w g hR => by
  obtain ⟨g1, h1⟩ := hR.take ht hne hL
  exact hc a w g1 h1
end

section
variable {P : Program} {w0 : World} {g0 : Gh} {st : St}

theorem refsD_rep {w : World} {g : Gh} {k : Nat} (hcv : ∀ q, g.cv k [] q = .slice none 0 0) : ∀ (row : List D) (j : Nat), row.all zeroOk = true → RC w g (refsD k j row) (row.map zeroV)
  | [], j, _ => ⟨rfl, fun i c u hc => by simp [refsD] at hc⟩
  | d :: row, j, h => by
    simp only [List.all_cons, Bool.and_eq_true] at h
    have ih := refsD_rep (w := w) hcv row (nextD j d) h.2
    refine ⟨by simp [refsD, ih.1], fun i c u hc hu => ?_⟩
    cases i with
    | succ i => exact ih.2 i c u (by simpa [refsD] using hc) (by simpa using hu)
    | zero =>
      simp only [refsD, List.getElem?_cons_zero, List.map_cons, Option.some.injEq] at hc hu
      subst hc; subst hu
      cases d with
      | v x => exact Ro.v x h.1
      | sl sz ds =>
        cases ds with
        | nil => exact ⟨(hcv j).symm, rfl⟩
        | cons _ _ => cases h.1
      | _ => cases h.1

/-- A struct put together: the lists that no part names are nil, and stand in a root of their own. -/
theorem OpT.buildN {o : Oper} {Q : St → Prop} {t : TypeId} {parts : List (Nat × Operand)} (ho : o.op = .build t parts.toArray) {k : Nat} (hd : o.dst = some k) {fs : Array Field} (hu : P.underlying t = some (.struct fs))
    {it : TypeInfo} (hi : P.info? t = some it) {z : Value} (hz : it.zero = some z) {row : List D} (hrow : zeroD P 6 t = some row) (hv : z.cells.toList = row.map zeroV) (hok : row.all zeroOk = true)
    {place : List (Nat × Nat)} (hpl : fs.toList.mapM (fun f => (P.info? f.type).map fun i => (f.offset, i.size)) = some place) {row' : List D} (hr : row = row')
    {pc : List (Nat × List C)} (hp : partsC (st.fresh k ⟨false, (row'.filter isSl).map C.own⟩) parts = some pc) {cs : List C} (hf : fillC place (refsD k 0 row') pc = some cs)
    (hq : Q ((st.fresh k ⟨false, (row'.filter isSl).map C.own⟩).put (some k) (.one (.agg cs)))) (hkp : k < 1000000 := by decide) : OpT P w0 g0 o st Q := fun a w g hR K Q' hK => by
  subst hr
  have hK1 : pinK ≠ k := by simp only [pinK]; omega
  let g' : Gh := { g with cv := fun k' => if k' = k then fun _ _ => .slice none 0 0 else g.cv k' }
  have hS : Same w g w g' (· ≠ k) := ⟨fun b hb => ⟨hb, rfl⟩, fun _ _ b _ => ⟨rfl, rfl⟩, fun _ _ => rfl, fun k' hk' => if_neg hk'⟩
  have hR' : Rel w0 g0 (st.fresh k ⟨false, (row.filter isSl).map C.own⟩) a w g' := by
    refine hR.grow hS ⟨hR.ks.os, hR.ks.tape, hR.ks.output, hR.ks.size, hR.ks.block, hR.ks.fresh, hR.ks.old, ⟨fun q => (by simp only [g', if_neg hK1]; exact hR.ks.pin.1 q), hR.ks.pin.2⟩, hR.ks.nobox⟩ (fun q c hq => ?_) (fun hm => by cases hm)
    rw [List.getElem?_map, Option.map_eq_some_iff] at hq
    obtain ⟨d, hq, rfl⟩ := hq
    have hm := List.mem_filter.1 (List.mem_of_getElem? hq)
    have hk := List.all_eq_true.1 hok d hm.1
    cases d with
    | sl sz ds =>
      cases ds with
      | nil => exact Ow.nil [] q sz (by simp [g'])
      | cons _ _ => cases hk
    | v x => cases hm.2
    | _ => cases hk
  have hz0 : RC w g' (refsD k 0 row) z.cells.toList := by
    rw [hv]
    exact refsD_rep (fun q => by simp [g']) row 0 hok
  obtain ⟨us, e1, e2⟩ := fillC_rep hR' hp hf hz0
  have hb : P.built t (parts.map fun p => (p.1, a.eval p.2)) = some us := by
    unfold Program.built
    simp only [hi, hu, hz, hpl]
    exact e1
  have hrun := run_build (P := P) w t (parts.toArray.map fun p => (p.1, a.eval p.2)) us (by simpa using hb)
  simp only [List.map_toArray] at hrun
  have hrun2 : (execOp a.eval o).run P w = .ok (.value (.agg us)) w := by simp [execOp, ho, hrun]
  unfold Oper.wp
  rw [hrun2]
  refine hK _ _ _ g' hq ?_
  rw [hd]
  exact hR'.put (.one _ _ (.agg _ us (by simpa using e2.1) fun j c u hc hu => e2.2 j c u hc (by simpa using hu))) (some k)

/-- append(x, y...), y's elements the call's own: they move; lengths and sizes as they come. -/
theorem OpT.appendOE {o : Oper} {Q : St → Prop} {x y : Operand} {t t2 e e2 : TypeId} (ho : o.op = .call { callee := .builtin .append, args := #[x, y], argTypes := #[t, t2] }) {k : Nat} (hd : o.dst = some k) {k1 k2 : Nat} (hx : T.opd 0 st x = some (.one (.c (.ref ⟨k1, [], 0⟩))))
    (hy : T.opd 0 st y = some (.one (.c (.ref ⟨k2, [], 0⟩)))) {sz : Nat} {ds ns : List D} (h1 : st.root k1 = some ⟨false, [.own (.sl sz ds)]⟩) (h2 : st.root k2 = some ⟨false, [.own (.sl sz ns)]⟩) (hne : k2 ≠ k1)
    (hnh : ∀ d ∈ ns, ∀ c ∈ d.row, c ≠ .hole) (ht : P.underlying t = some (.slice e)) (ht2 : P.underlying t2 = some (.slice e2)) {i : TypeInfo} {z : Value} (hi : P.info? e = some i) (hz : i.zero = some z)
    (hsz : i.size = sz) (hby : Nat.ble i.bytes 1048576 = true) (hzs : z.cells.size = sz) (hlen : ds.length + ns.length ≤ 134217728)
    (hq : Q ((st.renew [k, k1, k2] k ⟨false, [.own (.sl sz (ds ++ ns))]⟩).put (some k) (.one (.c (.ref ⟨k, [], 0⟩))))) (hkp : k < 1000000 := by decide) : OpT P w0 g0 o st Q := by
  have hb := Nat.le_of_ble_eq_true hby
  refine OpT.append ho hd hx hy h1 h2 hne hnh ht ht2 hi hz hsz rfl hzs (by simp only [most]; omega) ?_ hq hkp
  calc (ds.length + ns.length) * i.bytes ≤ 134217728 * i.bytes := Nat.mul_le_mul_right _ hlen
    _ ≤ 140737488355328 := by omega
end
end Go.Proofs.YtdlpmcjpbcbbjaaDoor.T
