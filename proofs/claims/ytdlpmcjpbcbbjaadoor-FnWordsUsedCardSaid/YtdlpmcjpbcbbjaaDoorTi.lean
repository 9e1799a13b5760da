/- The lifted walk, part i: stores, new variables, what is forgotten. No condition. -/
import Derived.Test.YtdlpmcjpbcbbjaaDoorTh
namespace Go.Proofs.YtdlpmcjpbcbbjaaDoor.T
open Go
set_option linter.unusedVariables false
set_option linter.unusedSimpArgs false

theorem Ro.one {w : World} {o : Nat → Tag} {d : D} {u : Value} (h : Ro w o d u) : u.oneCell' = true := by
  cases h with
  | v x hp => cases u <;> first | rfl | cases hp
  | _ => rfl

theorem RepV.one {w : World} {g : Gh} {c : C} {u : Value} (h : RepV w g c u) (hc : c ≠ .dead) : u.oneCell' = true := by
  cases c with
  | ro d => exact Ro.one h
  | own d => exact h.elim
  | ref pl => exact h.2
  | dead => exact absurd rfl hc

theorem cells_one {v : Value} (h : v.oneCell' = true) : v.cells = #[v] := by
  cases v <;> first | rfl | cases h

section
variable {P : Program} {w0 : World} {g0 : Gh} {st : St} {a : Act} {w : World} {g : Gh}

theorem store1_alive {pl : Pl} {c : C} {st' : St} (h : st.store1 pl c = some st') : c ≠ .dead := by
  intro e
  subst e
  simp only [St.store1] at h
  split at h <;> cases h

theorem run_store_cell {ad : Addr} {u x : Value} {cs : Array Value} {e : TypeId} (hu : u.oneCell' = true) (hc : w.cell? ad = some x) (hb : w.heap[ad.block]? = some (.cells cs e (0, 0))) :
    (store ad u).run P w = .ok () (w.setCell ad u) := by
  rw [run_store P w ad u _ hu, hc]
  have hf : w.frozen? ad = false := by simp [World.frozen?, hb]
  simp [hf]

/-- A struct's cells, one behind the other. -/
def St.storeAll (k : Nat) (p : List (Nat × Nat)) : List C → (C → C) → Nat → St → Option St
  | [], _, _, st => some st
  | c :: cs, f, q, st =>
    match st.cellAt ⟨k, p, q⟩ with
    | some _ =>
      match st.store1 ⟨k, p, q⟩ (f c) with
      | some st' => St.storeAll k p cs (fun c => (f c).kill (hitR k p q)) (q + 1) st'
      | none => none
    | none => none

theorem isMem_store {k : Nat} {p : List (Nat × Nat)} {q q' : Nat} {c : C} {st' : St} (hs : st.store1 ⟨k, p, q⟩ c = some st') (hm : st.isMem ⟨k, p, q⟩ = true) : st'.isMem ⟨k, p, q'⟩ = true := by
  simp only [St.isMem] at hm ⊢
  cases p with
  | cons x p => rfl
  | nil =>
    show (match st'.root k with | some r => r.mem | none => false) = true
    replace hm : (match st.root k with | some r => r.mem | none => false) = true := hm
    simp only [St.store1] at hs
    cases hr : st.root k with
    | none => rw [hr] at hm; cases hm
    | some r =>
      rw [hr] at hm hs
      replace hm : r.mem = true := hm
      dsimp only at hs
      have key : ∀ row' s, (s : Option (Nat × Nat)).all (fun x => x.1 != k) = true → ((st.wrote k [] q r.mem row' s).root k).any (·.mem) = true := by
        intro row' s hsn
        cases s with
        | none => rw [St.root_wrote_none]; simp [hm]
        | some x =>
          obtain ⟨k1, q1⟩ := x
          have hne : k1 ≠ k := by simpa using hsn
          rw [St.root_wrote_some _ _ _ _ _ _ _ _ _ hne]; simp [hm]
      have fin : ∀ row' s, st' = st.wrote k [] q r.mem row' s → (s : Option (Nat × Nat)).all (fun x => x.1 != k) = true → (match st'.root k with | some r => r.mem | none => false) = true := by
        intro row' s e hsn
        have := key row' s hsn
        rw [← e] at this
        cases h' : st'.root k with
        | none => rw [h'] at this; cases this
        | some r' => rw [h'] at this; exact this
      split at hs
      · rw [Option.map_eq_some_iff] at hs
        obtain ⟨row', _, rfl⟩ := hs
        exact fin row' none rfl rfl
      · split at hs
        · rw [Option.map_eq_some_iff] at hs
          obtain ⟨row', _, rfl⟩ := hs
          exact fin row' none rfl rfl
        · cases hs
      · split at hs
        · rename_i hc
          simp only [Bool.and_eq_true] at hc
          split at hs
          · split at hs
            · cases hs
            · rw [Option.map_eq_some_iff] at hs
              obtain ⟨row', _, rfl⟩ := hs
              exact fin row' (some _) rfl hc.2
          · split at hs
            · rw [Option.map_eq_some_iff] at hs
              obtain ⟨row', _, rfl⟩ := hs
              exact fin row' none rfl rfl
            · cases hs
        · split at hs
          · rw [Option.map_eq_some_iff] at hs
            obtain ⟨row', _, rfl⟩ := hs
            exact fin row' none rfl rfl
          · cases hs
      · cases hs

theorem Rel.storeAll {k : Nat} {p : List (Nat × Nat)} : ∀ {cs : List C} {us : List Value} {f : C → C} {q : Nat} {st st' : St} {w : World} {g : Gh} (hR : Rel w0 g0 st a w g), cs.length = us.length →
    (∀ (j : Nat) c u, cs[j]? = some c → us[j]? = some u → RepV w g (f c) u) → (cs ≠ [] → st.isMem ⟨k, p, q⟩ = true) → St.storeAll k p cs f q st = some st' →
    ∃ w' g', (∀ A, cellAddr (g.ad k p) q = A → ∀ i ad0, ad0.add i = A → (storeCells ad0 us i).run P w = .ok () w') ∧ Rel w0 g0 st' a w' g'
  | [], [], f, q, st, st', w, g, hR, _, _, _, hs => by
    simp only [St.storeAll, Option.some.injEq] at hs
    subst hs
    exact ⟨w, g, fun A hA i ad0 hi => rfl, hR⟩
  | c :: cs, u :: us, f, q, st, st', w, g, hR, hl, hu, hm, hs => by
    simp only [St.storeAll] at hs
    have hm := hm (by simp)
    split at hs
    · rename_i c0 hc0
      split at hs
      · rename_i st1 hs1
        have hu0 := hu 0 c u rfl rfl
        obtain ⟨g1, hR1, hA1, had⟩ := hR.store1 hc0 hm hs1 hu0
        have hc1 := hR.cellAt hc0
        have hrun := run_store_cell (P := P) (u := u) (hu0.one (store1_alive hs1)) (hc1.2.2.1 hm) (hc1.2.2.2 hm).2.choose_spec.choose_spec
        obtain ⟨w', g', hr', hR'⟩ := Rel.storeAll (cs := cs) (us := us) (f := fun c => (f c).kill (hitR k p q)) hR1 (by simpa using hl) (fun j c' u' hj hj' => 
          (hu (j + 1) c' u' (by simpa using hj) (by simpa using hj')).kill hA1) (fun _ => isMem_store hs1 hm) hs
        refine ⟨w', g', fun A hA i ad0 hi => ?_, hR'⟩
        have h2 := hr' (cellAddr (g.ad k p) (q + 1)) (by rw [had]) (i + 1) ad0 (by
          have : ad0.add (i + 1) = (ad0.add i).add 1 := by
            by_cases h : i = 0
            · subst h
              simp [Addr.add]
            · simp [Addr.add, h, Nat.add_assoc]
          rw [this, hi, ← hA, addr_add])
        simp only [storeCells, Sem.run_bind, hi, ← hA]
        rw [hrun]
        exact h2
      · cases hs
    · cases hs

variable {o : Oper} {Q : St → Prop} {x y : Operand} {t e : TypeId}

theorem OpT.store (ho : o.op = .store t x y) {pl : Pl} {c c0 : C} {st' : St} {z : Nat} (hx : T.opd 0 st x = some (.one (.ptr pl))) (hy : T.opd z st y = some (.one (.c c))) (ht : sizeT P t = some 1)
    (hc0 : st.cellAt pl = some c0) (hm : st.isMem pl = true) (hs : st.store1 pl c = some st') (hq : Q (st'.put o.dst (.one .dead))) : OpT P w0 g0 o st Q := fun a w g hR K Q' hK => by
  have h1 := hR.opd hx
  have h2 := hR.opd hy
  generalize hvx : a.eval x = vx at h1
  generalize hvy : a.eval y = vy at h2
  cases h1 with
  | one _ _ h1 =>
    cases h1 with
    | ptr _ =>
      cases h2 with
      | one _ _ h2 =>
        cases h2 with
        | c _ _ h2 =>
          obtain ⟨g', hR', _, _⟩ := hR.store1 hc0 hm hs h2
          have hc1 := hR.cellAt hc0
          have hone := h2.one (store1_alive hs)
          have hrun := run_store_cell (P := P) (u := vy) hone (hc1.2.2.1 hm) (hc1.2.2.2 hm).2.choose_spec.choose_spec
          unfold Oper.wp
          have hx' : (execOp a.eval o).run P w = .ok .skip (w.setCell (cellAddr (g.ad pl.k pl.p) pl.q) vy) := by
            simp [execOp, ho, hvx, hvy, Instr.storeAt, Instr.sureAddr, storeVar, cells_one hone, run_sizeOf' ht, storeCells, Addr.add_zero', hrun]
          rw [hx']
          exact hK _ _ _ _ hq (hR'.put (.one _ _ (.dead _)) o.dst)

theorem OpT.storeAgg (ho : o.op = .store t x y) {pl : Pl} {cs : List C} {st' : St} (hx : T.opd 0 st x = some (.one (.ptr pl))) (hy : T.opd 0 st y = some (.one (.agg cs))) {n : Nat} (ht : sizeT P t = some n)
    (hn : cs.length = n) (hm : st.isMem pl = true) (hs : St.storeAll pl.k pl.p cs id pl.q st = some st') (hq : Q (st'.put o.dst (.one .dead))) : OpT P w0 g0 o st Q := fun a w g hR K Q' hK => by
  have h1 := hR.opd hx
  have h2 := hR.opd hy
  generalize hvx : a.eval x = vx at h1
  generalize hvy : a.eval y = vy at h2
  cases h1 with
  | one _ _ h1 =>
    cases h1 with
    | ptr _ =>
      cases h2 with
      | one _ _ h2 =>
        cases h2 with
        | agg _ us hsz h2 =>
          obtain ⟨w', g', hr, hR'⟩ := Rel.storeAll (P := P) (us := us.toList) hR (by simpa using hsz.symm) (fun j c u hj hj' => h2 j c u hj (by simpa using hj')) (fun _ => hm) hs
          have hrun := hr _ rfl 0 _ (Addr.add_zero' _)
          unfold Oper.wp
          have hx' : (execOp a.eval o).run P w = .ok .skip w' := by
            simp [execOp, ho, hvx, hvy, Instr.storeAt, Instr.sureAddr, storeVar, Value.cells, run_sizeOf' ht, hrun, hsz, hn]
          rw [hx']
          exact hK _ _ _ _ hq (hR'.put (.one _ _ (.dead _)) o.dst)

/- A NEW VARIABLE -/
/-- What a new variable's cell holds. -/
def BoxC (w : World) (g : Gh) (k : Nat) : C → Value → Prop
  | .ro d, u => Ro w g.o d u
  | .own (.v x), u => u = x ∧ plain x = true
  | .own (.sl _ []), u => u = .slice none 0 0
  | .own _, _ => False
  | .ref pl, u => RepV w g (.ref pl) u ∧ pl.k ≠ k
  | .dead, _ => True

theorem Same.of_alloc (hR : Rel w0 g0 st a w g) {k : Nat} {ob : Obj} {g' : Gh} (ho : ∀ b, b ≠ w.heap.size → g'.o b = g.o b) (ha : ∀ k', k' ≠ k → g'.ad k' = g.ad k') (hc : ∀ k', k' ≠ k → g'.cv k' = g.cv k') :
    Same w g (w.alloc ob) g' (· ≠ k) := by
  have hn : ∀ b, g.o b ≠ .outer → b ≠ w.heap.size := fun b hb e => hb (hR.ks.fresh b (by omega))
  have hh : ∀ b, g.o b ≠ .outer → b ≠ w.heap.size → (w.alloc ob).heap[b]? = w.heap[b]? := fun b h1 h2 => by
    have h3 : b < w.heap.size := by
      rcases Nat.lt_or_ge b w.heap.size with h | h
      · exact h
      · exact absurd (hR.ks.fresh b h) h1
    exact RowKit.Below.heap_alloc w ob b h3
  refine ⟨fun b hb => ?_, fun k' hk' b hb => ?_, ha, hc⟩
  · have h1 : g.o b ≠ .outer := by rw [hb]; simp
    rw [ho b (hn b h1)]
    exact ⟨hb, hh b h1 (hn b h1)⟩
  · have h1 : g.o b ≠ .outer := fun e => by rw [e] at hb; cases hb
    exact ⟨ho b (hn b h1), hh b h1 (hn b h1)⟩

theorem Keeps.of_alloc (hk : Keeps w0 g0 w g) {ob : Obj} {g' : Gh} (ho : ∀ b, b ≠ w.heap.size → g'.o b = g.o b) (hn : g'.o w.heap.size ≠ .outer)
    (hpc : ∀ q, g'.cv pinK [] q = g.cv pinK [] q) (hpa : g'.ad pinB [] = g.ad pinB []) (hnb : g'.o w.heap.size ≠ .box pinK) : Keeps w0 g0 (w.alloc ob) g' := by
  refine ⟨hk.os, hk.tape, hk.output, by simp; have := hk.size; omega, fun b hb hx => ?_, fun b hb => ?_, fun b hb hx => ?_, ⟨fun q => (hpc q).trans (hk.pin.1 q), hpa.trans hk.pin.2⟩, fun b => ?_⟩
  · have h1 := hk.size
    have h2 : b < w.heap.size := by omega
    rw [ho b (by omega)]
    refine ⟨?_, (hk.block b hb hx).2⟩
    rw [← (hk.block b hb hx).1]
    exact RowKit.Below.heap_alloc w ob b h2
  · simp at hb
    rw [ho b (by omega)]
    exact hk.fresh b (by omega)
  · by_cases e : b = w.heap.size
    · subst e; exact absurd hx hn
    · rw [ho b e] at hx
      simp at hb
      exact hk.old b (by omega) hx
  · by_cases e : b = w.heap.size
    · subst e; exact hnb
    · rw [ho b e]; exact hk.nobox b

theorem Rel.box (hR : Rel w0 g0 st a w g) {k : Nat} (hkp : k < 1000000) {cells : Array Value} {e : TypeId} {row : List C} (hl : row.length = cells.size)
    (hc : ∀ (q : Nat) c u, row[q]? = some c → cells[q]? = some u → BoxC w g k c u) :
    ∃ g', Rel w0 g0 (st.fresh k ⟨true, row⟩) a (w.alloc (.cells cells e)) g' ∧ g'.ad k [] = (w.heap.size, 0) := by
  let g' : Gh :=
    { o := fun b => if b = w.heap.size then .box k else g.o b
      ad := fun k' => if k' = k then fun _ => (w.heap.size, 0) else g.ad k'
      cv := fun k' => if k' = k then fun _ q => cells.getD q undef else g.cv k' }
  have ho : ∀ b, b ≠ w.heap.size → g'.o b = g.o b := fun b hb => if_neg hb
  have hS : Same w g (w.alloc (.cells cells e)) g' (· ≠ k) := Same.of_alloc hR ho (fun k' hk' => if_neg hk') (fun k' hk' => if_neg hk')
  have hcv : ∀ q u, cells[q]? = some u → g'.cv k [] q = u := fun q u hu => by
    have : g'.cv k [] q = cells.getD q undef := by simp [g']
    rw [this, Array.getD_eq_getD_getElem?, hu]
    rfl
  have had : g'.ad k [] = (w.heap.size, 0) := by simp [g']
  have hK1 : pinK ≠ k := by simp only [pinK]; omega
  have hB1 : pinB ≠ k := by simp only [pinB]; omega
  refine ⟨g', hR.grow hS (hR.ks.of_alloc ho (by simp [g']) (fun q => by simp only [g', if_neg hK1]) (by simp only [g', if_neg hB1]) (fun e => by simp only [g', if_true, Tag.box.injEq] at e; exact hK1 e.symm)) (fun q c hq => ?_) (fun _ => ⟨by simp [g'], ⟨cells, e, by rw [had]; exact heap_alloc_new w _⟩, fun q hq => ?_⟩), had⟩
  · have hq' : q < cells.size := by rw [← hl]; exact (List.getElem?_eq_some_iff.1 hq).1
    have hu : cells[q]? = some cells[q] := Array.getElem?_eq_getElem hq'
    have h1 := hc q c _ hq hu
    cases c with
    | ro d => show Ro _ g'.o d (g'.cv k [] q); rw [hcv q _ hu]; exact Ro.mono hS.ro h1
    | own d =>
      cases d with
      | v x => exact .v [] q x h1.2 (by rw [hcv q _ hu]; exact h1.1)
      | sl sz ds =>
        cases ds with
        | nil => exact .nil [] q sz (by rw [hcv q _ hu]; exact h1)
        | cons => exact h1.elim
      | _ => exact h1.elim
    | ref pl =>
      obtain ⟨⟨h2, h3⟩, h4⟩ := h1
      show g'.cv k [] q = g'.cv pl.k pl.p pl.q ∧ (g'.cv k [] q).oneCell' = true
      rw [hcv q _ hu, hS.cv pl.k h4]
      exact ⟨h2, h3⟩
    | dead => trivial
  · have hq' : q < cells.size := by
      simp only at hq
      omega
    have hu : cells[q]? = some cells[q] := Array.getElem?_eq_getElem hq'
    rw [had, hcv q _ hu]
    simp [cellAddr]

/-- A value's cells as a new variable bears them. -/
def boxC (k : Nat) : C → C
  | .ro (.v x) => .own (.v x)
  | .ref pl => if pl.k == k then .dead else .ref pl
  | c => c

theorem BoxC.of_val {k : Nat} {c : C} {u : Value} (h : RepV w g c u) : BoxC w g k (boxC k c) u := by
  cases c with
  | ro d =>
    cases d with
    | v x =>
      have h1 : Ro w g.o (.v x) u := h
      cases h1 with
      | v _ hp => exact ⟨rfl, hp⟩
    | _ => exact h
  | own d => exact h.elim
  | ref pl =>
    simp only [boxC]
    split
    · trivial
    · rename_i hk
      exact ⟨h, by simpa using hk⟩
  | dead => trivial

theorem OpT.box (ho : o.op = .box t x) {k : Nat} (hd : o.dst = some k) {c : C} {z : Nat} (hx : T.opd z st x = some (.one (.c c))) (hc : c ≠ .dead) (hq : Q ((st.fresh k ⟨true, [boxC k c]⟩).put (some k) (.one (.ptr ⟨k, [], 0⟩)))) (hkp : k < 1000000 := by decide) :
    OpT P w0 g0 o st Q := fun a w g hR K Q' hK => by
  have h2 := hR.opd hx
  generalize hv : a.eval x = v at h2
  cases h2 with
  | one _ _ h2 =>
    cases h2 with
    | c _ _ h2 =>
      have hone := h2.one hc
      obtain ⟨g', hR', had⟩ := hR.box (k := k) hkp (cells := #[v]) (e := t) (row := [boxC k c]) rfl (fun q c' u hq hu => by
        cases q with
        | zero =>
          simp only [List.getElem?_cons_zero, Option.some.injEq] at hq
          subst hq
          simp at hu
          subst hu
          exact BoxC.of_val h2
        | succ q => simp at hq)
      unfold Oper.wp
      have hrun : (execOp a.eval o).run P w = .ok (.value (.pointer (some ⟨w.heap.size, 0, none⟩))) (w.alloc (.cells #[v] t)) := by
        simp [execOp, ho, hv, Instr.box, newVar, newRow, cells_one hone]
      rw [hrun]
      refine hK _ _ _ g' hq ?_
      rw [hd]
      have hp : RepS (w.alloc (.cells #[v] t)) g' (.one (.ptr ⟨k, [], 0⟩)) (.pointer (some ⟨w.heap.size, 0, none⟩)) := by
        have := RepT.ptr (w := w.alloc (.cells #[v] t)) (g := g') ⟨k, [], 0⟩
        simp only [had, cellAddr, Nat.add_zero] at this
        exact .one _ _ this
      exact hR'.put hp (some k)

theorem OpT.boxAgg (ho : o.op = .box t x) {k : Nat} (hd : o.dst = some k) {cs : List C} (hx : T.opd 0 st x = some (.one (.agg cs))) (hq : Q ((st.fresh k ⟨true, cs.map (boxC k)⟩).put (some k) (.one (.ptr ⟨k, [], 0⟩)))) (hkp : k < 1000000 := by decide) :
    OpT P w0 g0 o st Q := fun a w g hR K Q' hK => by
  have h2 := hR.opd hx
  generalize hv : a.eval x = v at h2
  cases h2 with
  | one _ _ h2 =>
    cases h2 with
    | agg _ us hsz h2 =>
      obtain ⟨g', hR', had⟩ := hR.box (k := k) hkp (cells := us) (e := t) (row := cs.map (boxC k)) (by simp [hsz]) (fun q c' u hq hu => by
        rw [List.getElem?_map, Option.map_eq_some_iff] at hq
        obtain ⟨c, hq, rfl⟩ := hq
        exact BoxC.of_val (h2 q c u hq hu))
      unfold Oper.wp
      have hrun : (execOp a.eval o).run P w = .ok (.value (.pointer (some ⟨w.heap.size, 0, none⟩))) (w.alloc (.cells us t)) := by
        simp [execOp, ho, hv, Instr.box, newVar, newRow, Value.cells]
      rw [hrun]
      refine hK _ _ _ g' hq ?_
      rw [hd]
      have hp : RepS (w.alloc (.cells us t)) g' (.one (.ptr ⟨k, [], 0⟩)) (.pointer (some ⟨w.heap.size, 0, none⟩)) := by
        have := RepT.ptr (w := w.alloc (.cells us t)) (g := g') ⟨k, [], 0⟩
        simp only [had, cellAddr, Nat.add_zero] at this
        exact .one _ _ this
      exact hR'.put hp (some k)

/-- The zero value of a type, cell by cell. -/
def zeroD (P : Program) : Nat → TypeId → Option (List D)
  | 0, _ => none
  | n + 1, t =>
    match P.underlying t with
    | some .bool => some [.v (.bool false)]
    | some (.int k) => some [.v (.int k 0)]
    | some .string => some [.v (.string ⟨#[]⟩)]
    | some (.slice e) => (sizeT P e).map fun s => [.sl s []]
    | some (.struct fs) => fs.toList.foldr (fun f acc => match zeroD P n f.type, acc with | some l, some r => some (l ++ r) | _, _ => none) (some [])
    | _ => none

def zeroV : D → Value
  | .v x => x
  | _ => .slice none 0 0

def zeroOk : D → Bool
  | .v x => plain x
  | .sl _ [] => true
  | _ => false

theorem OpT.alloc (ho : o.op = .alloc t) {k : Nat} (hd : o.dst = some k) {z : Value} (hz : (P.info? t).bind (·.zero) = some z) {row : List D} (hrow : zeroD P 6 t = some row)
    (hv : z.cells.toList = row.map zeroV) (hok : row.all zeroOk = true) (hq : Q ((st.fresh k ⟨true, row.map C.own⟩).put (some k) (.one (.ptr ⟨k, [], 0⟩)))) (hkp : k < 1000000 := by decide) : OpT P w0 g0 o st Q := fun a w g hR K Q' hK => by
  have hsz : row.length = z.cells.size := by
    have := congrArg List.length hv
    simpa using this.symm
  obtain ⟨g', hR', had⟩ := hR.box (k := k) hkp (cells := z.cells) (e := t) (row := row.map C.own) (by simpa using hsz) (fun q c' u hq hu => by
    rw [List.getElem?_map, Option.map_eq_some_iff] at hq
    obtain ⟨d, hq, rfl⟩ := hq
    have hdk := List.all_eq_true.1 hok d (List.mem_of_getElem? hq)
    have hu' : u = zeroV d := by
      rw [← Array.getElem?_toList, hv, List.getElem?_map, hq] at hu
      simpa using hu.symm
    subst hu'
    cases d with
    | v x => exact ⟨rfl, hdk⟩
    | sl sz ds => cases ds with
      | nil => exact rfl
      | cons => cases hdk
    | _ => cases hdk)
  unfold Oper.wp
  have hzv : (zeroValue t).run P w = .ok z w := by
    rw [Option.bind_eq_some_iff] at hz
    obtain ⟨i, h1, h2⟩ := hz
    simp [zeroValue, typeInfo, h1, h2]
  have hrun : (execOp a.eval o).run P w = .ok (.value (.pointer (some ⟨w.heap.size, 0, none⟩))) (w.alloc (.cells z.cells t)) := by
    simp [execOp, ho, Instr.alloc, hzv, newVar, newRow]
  rw [hrun]
  refine hK _ _ _ g' hq ?_
  rw [hd]
  have hp : RepS (w.alloc (.cells z.cells t)) g' (.one (.ptr ⟨k, [], 0⟩)) (.pointer (some ⟨w.heap.size, 0, none⟩)) := by
    have := RepT.ptr (w := w.alloc (.cells z.cells t)) (g := g') ⟨k, [], 0⟩
    simp only [had, cellAddr, Nat.add_zero] at this
    exact .one _ _ this
  exact hR'.put hp (some k)

/- WHAT IS FORGOTTEN -/
/-- Fewer known slots, fewer roots. -/
structure Less (st st' : St) : Prop where
  tmps : st'.tmps.length = st.tmps.length ∧ ∀ (i : Nat) t, st'.tmps[i]? = some t → t = .one .dead ∨ st.tmps[i]? = some t
  roots : ∀ k r, st'.root k = some r → st.root k = some r

theorem Rel.less {st' : St} (hR : Rel w0 g0 st a w g) (h : Less st st') : Rel w0 g0 st' a w g := by
  refine ⟨fun i t hi => ?_, by rw [h.tmps.1]; exact hR.sz, hR.df, ⟨fun k r hk => hR.rt.cell k r (h.roots k r hk), fun k r hk => hR.rt.mem k r (h.roots k r hk)⟩, hR.ks⟩
  rcases h.tmps.2 i t hi with rfl | h1
  · exact .one _ _ (.dead _)
  · exact hR.tm i t h1

theorem TC.less {c : Code} {st' : St} {Q : Exit → St → Prop} (h : Less st st') (hc : TC P w0 g0 c st' Q) : TC P w0 g0 c st Q := fun a w g hR => hc a w g (hR.less h)

end
end Go.Proofs.YtdlpmcjpbcbbjaaDoor.T
