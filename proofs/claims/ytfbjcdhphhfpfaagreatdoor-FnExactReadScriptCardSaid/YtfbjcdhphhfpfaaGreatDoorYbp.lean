/- Scripts read: the program's walk. PRINTED by gen.py out of spec_script4.py. -/
import Derived.Test.YtfbjcdhphhfpfaaGreatDoorT3p
import Derived.Test.YtfbjcdhphhfpfaaGreatDoorTzkp
import Derived.Test.YtfbjcdhphhfpfaaGreatDoorYap
import Derived.Test.YtfbjcdhphhfpfaaGreatDoorWhp
import Derived.Test.YtfbjcdhphhfpfaaGreatDoorWsp
import Derived.Test.YtfbjcdhphhfpfaaGreatDoorWup
import Derived.Test.YtfbjcdhphhfpfaaGreatDoorWmp
import Derived.Shelf.Strings.Split
namespace Go.Proofs.YtfbjcdhphhfpfaaGreatDoor.T
open Go
set_option linter.unusedVariables false
set_option linter.unusedSimpArgs false
set_option maxRecDepth 100000
set_option maxHeartbeats 1000000

open Go.Shelf in
/-- The tables, and a length of the library's. -/
def TabS (w : World) : Prop := TabE w ∧ ∃ m, w.cell? ⟨0, 0, none⟩ = some (.int .i64 m)
theorem TabS.keep (w w' : World) (h : TabS w) (hs : w.heap.size ≤ w'.heap.size) (hb : ∀ b, b < w.heap.size → w'.heap[b]? = w.heap[b]?) : TabS w' := by
  obtain ⟨h1, m, h2⟩ := h
  exact ⟨TabE.keep w w' h1 hs hb, m, cell_keep h2 hb⟩
/-- A contract of the shelf's: plain arguments, a new list of plain values. -/
theorem FunAt.newList {P : Program} {f : FuncId} {vs : List Value} {xs : List Value} {w : World} {t : TypeId} (hp : ∀ x ∈ xs, plain x = true) (hm : xs.length ≤ most)
    (h : Calls P f vs.toArray w fun e w' => e = .returned (.slice (some ⟨w.heap.size, 0, none⟩) xs.length xs.length) ∧ w' = w.alloc (.cells xs.toArray t)) : FunAt P f (vs.map V) (RL 1 (xs.map D.v)) w := by
  intro g args k hg hsz hargs
  have ha : args = vs.toArray := by
    apply Array.ext
    · simpa using hsz
    · intro i h1 h2
      have h3 : i < vs.length := by simpa using h2
      have := V_inv (hargs i (V vs[i]) args[i] (by simp [h3]) (Array.getElem?_eq_getElem h1))
      simpa using this
  subst ha
  refine h.mono fun e w' ⟨he, hw⟩ => ?_
  subst he; subst hw
  let g' : Gh :=
    { o := fun b => if b = w.heap.size then .lies k [] 0 else if b < w.heap.size then .ro else .outer
      ad := fun _ p => match p with | [(_, i)] => (w.heap.size, i) | _ => (0, 0)
      cv := fun _ p q => match p with | [(_, i)] => xs.toArray.getD i undef | _ => .slice (some ⟨w.heap.size, 0, none⟩) xs.length xs.length }
  have hsz1 : (w.alloc (.cells xs.toArray t)).heap.size = w.heap.size + 1 := by simp
  refine ⟨_, _, g', rfl, rfl, rfl, rfl, rfl, by omega, fun b hb => ?_, fun b hb1 hb => .inr ?_, fun b hb => ?_, fun q d hq => ?_, ?_⟩
  · show (w.heap.push _)[b]? = w.heap[b]?
    rw [Array.getElem?_push, if_neg (by omega)]
  · have : b = w.heap.size := by omega
    simp [g', this, Tag.root?]
  · by_cases e : b = w.heap.size
    · omega
    · simp only [g', if_neg e] at hb
      split at hb <;> cases hb
  · cases q with
    | succ q => simp at hq
    | zero =>
      simp only [List.getElem?_cons_zero, Option.some.injEq] at hq
      subst hq
      refine .sl [] 0 1 _ w.heap.size 0 xs.length xs.length xs.toArray t rfl (by simp) hm (Nat.le_refl _) (by simpa [most] using hm) (by simp [g']) (by show (w.heap.push _)[w.heap.size]? = _; simp) (by simp) (fun d hd => ?_) (fun i hi => by simp [g']) (fun i j hi hj => ?_) (fun i d hd j c' hj => ?_)
      · obtain ⟨x, _, rfl⟩ := List.mem_map.1 hd
        rfl
      · obtain rfl : j = 0 := by omega
        rw [World.cell?_alloc_at _ _ _ _ (by rfl)]
        simp [g', hi]
      · rw [List.getElem?_map, Option.map_eq_some_iff] at hd
        obtain ⟨x, hx, rfl⟩ := hd
        cases j with
        | succ j => simp [D.row] at hj
        | zero =>
          simp only [D.row, List.getElem?_cons_zero, Option.some.injEq] at hj
          subst hj
          exact .v _ _ x (hp x (List.mem_of_getElem? hx)) (by simp [g', hx])
  · exact .one _ _ (.c _ _ ⟨rfl, rfl⟩)
theorem split_f (s : ByteArray) (hs : s.size ≤ 12000) : FunW TabS Tryz.prog 14 [S s, S ⟨#[10]⟩] (RL 1 ((linesOf s).map fun w => .v (.string w))) := fun w hW => by
  obtain ⟨_, m, hm⟩ := hW
  have h1 := Any.strings_Split { laysSplit with } laysSplit.i9 s ⟨#[10]⟩ m w (by omega) hm (by decide)
  have hl := linesOf_len s
  have h2 := FunAt.newList (P := Tryz.prog) (f := 14) (vs := [.string s, .string ⟨#[10]⟩]) (xs := (linesOf s).map Value.string) (w := w) (t := laysSplit_ren.t 9) (fun x hx => by obtain ⟨y, _, rfl⟩ := List.mem_map.1 hx; rfl) (by simp [most]; omega) (by
    rw [split_lines] at h1
    rw [List.length_map, ← split_len]
    exact h1)
  rw [List.map_map] at h2
  exact h2
theorem impl_ReadAct_q {s : ByteArray} {q : Option VAct} (h : readAct s = q) : FunW TabE Tryz.prog 34 [S s] (RAct q) := h ▸ impl_ReadAct_f s
theorem impl_ReadIns_q {s : ByteArray} {q : Option VIns} (h : readIns s = q) : FunW TabE Tryz.prog 35 [S s] (RIns q) := h ▸ impl_ReadIns_f s

theorem impl_accept_f (s : VScript) (hs : Small s) (line : ByteArray) (ws : List ByteArray) : Fun2W (TabE) Tryz.prog 16 (⟨true, rScript s⟩) [.one (.ptr ⟨1000001, [], 0⟩), S line, L 1 (ws.map fun w => .v (.string w))] (RP2 (rScript (accept s line ws).1) (B (accept s line ws).2)) := by
  refine Fun2W.of Tryz.func16 rfl (by simp [Tryz.ntmps16]) fun w g0 hW => ?_
  simp only [Tryz.ntmps16, List.length_cons, List.length_nil, Nat.reduceAdd, Nat.reduceSub, List.replicate, List.cons_append, List.nil_append, Hand.k, pinK, pinB, if_true, if_false, Bool.false_eq_true, List.map_cons, List.map_nil]
  obtain ⟨qa, hqa⟩ : ∃ q, readAct line = q := ⟨_, rfl⟩
  obtain ⟨qi, hqi⟩ : ∃ q, readIns line = q := ⟨_, rfl⟩
  obtain ⟨x0, hx0⟩ : ∃ x0, ws.length = 1 → ws = [x0] := by rcases ws with _ | ⟨x, _ | _⟩ <;> simp
  obtain ⟨hs1, hs2, hs3⟩ := hs
  refine TC.seq ?_
  refine TC.region ?_
  refine TL.vE (Val.assign 1 rfl rfl) ?_
  refine TL.nil ?_
  show TC _ _ _ _ _ _
  refine TC.seq ?_
  refine TC.seq ?_
  refine TC.region ?_
  refine TL.vE (Val.move 1 rfl rfl) ?_
  refine TL.opK rfl fun K hK => ?_
  refine OpT.callG rfl rfl rfl rfl rfl rfl ((impl_ReadAct_q hqa).k) (by repeat first | exact .nil | refine Snaps.cons (.ro _) ?_ | refine Snaps.cons (.aggRo rfl) ?_ | refine Snaps.cons (.cptr _) ?_ | refine Snaps.cons (.fn _) ?_ | refine Snaps.cons (.ownRef rfl (by first | assumption | exact whole_map _ _ (fun w c hc => by simp only [D.row, List.mem_cons, List.not_mem_nil, or_false] at hc; subst hc; exact .v _))) ?_ | refine Snaps.cons (.aggR (by repeat first | exact .nil | refine SnapCs.cons (.ro _) ?_ | refine SnapCs.cons (.ref rfl (by first | assumption | exact whole_map _ _ (fun w c hc => by simp only [D.row, List.mem_cons, List.not_mem_nil, or_false] at hc; subst hc; exact .v _))) ?_)) ?_) rfl ?_
  simp only [nrm, Nat.reduceBEq, Nat.reduceBNe, reduceIte]
  refine hK _ ?_
  clear hK K
  refine TL.vE (Val.move 1 rfl rfl) ?_
  refine TL.vE (Val.extract rfl rfl rfl) ?_
  refine TL.vE (Val.extract rfl rfl rfl) ?_
  refine TL.opK rfl fun K hK => ?_
  refine OpT.alloc rfl rfl rfl rfl rfl rfl ?_
  simp only [nrm, Nat.reduceBEq, Nat.reduceBNe, reduceIte]
  refine hK _ ?_
  clear hK K
  refine TL.opK rfl fun K hK => ?_
  refine OpT.storeAgg rfl rfl rfl rfl rfl rfl (by simp [St.store1, St.storeAll, St.cellAt, St.isMem, St.root, St.wrote, St.kill, St.setRoot, TS.kill, TV.kill, C.kill, Rt.kill, hitR, hitP, shapeOf, setRow, setAt, rowAt, D.row, D.reRow, List.isPrefixOf]; rfl) ?_ -- None
  simp only [nrm, Nat.reduceBEq, Nat.reduceBNe, reduceIte]
  refine hK _ ?_
  clear hK K
  refine TL.vE (Val.assign 1 rfl rfl) ?_
  refine TL.nil ?_
  show TC _ _ _ _ _ _
  refine TC.seq ?_
  refine TC.region ?_
  refine TL.vE (Val.move 1 rfl rfl) ?_
  refine TL.nil ?_
  show TC _ _ _ _ _ _
  refine TC.cond rfl (fun hb => ?_) (fun hb => ?_)
  · have hk19 := hb
    refine TC.seq ?_
    obtain ⟨a, rfl⟩ : ∃ a, qa = some a := by cases qa <;> simp at hb <;> exact ⟨_, rfl⟩
    refine TC.take 1000001 1 3000 (by simp [St.take, St.root, St.fresh, St.kill, St.setRoot, TS.kill, TV.kill, C.kill, Rt.kill]; rfl) ?_
    refine TC.regionV [7, 10] [7] [0] [(0, 2), (1, 0), (2, 0), (3, 0), (4, 0), (5, 0), (6, 1), (7, 1), (8, 0), (9, 0), (10, 1)] rfl (by decide +kernel) ?_
    refine TU.valS (by decide) rfl (yes_none rfl) (ValS.pure (Val.move 1 rfl rfl) rfl) (by simp only [nput]; rfl) ?_
    refine TU.valE (by decide) rfl (yes_none rfl) (Val.move 1 rfl rfl) (by simp only [nput]; rfl) ?_
    refine TU.valE (by decide) rfl (yes_none rfl) (Val.nilPtr rfl rfl) (by simp only [nput]; rfl) ?_
    refine TU.valE (by decide) rfl (yes_none rfl) (by first | exact Val.field rfl rfl rfl | exact Val.fieldC rfl rfl rfl) (by simp only [nput, npf, Nat.reduceAdd]; rfl) ?_
    refine TU.valE (by decide) rfl (yes_none rfl) (by first | exact Val.load rfl rfl rfl rfl rfl | exact Val.loadC rfl rfl rfl) (by simp only [nput, valC]; rfl) ?_
    refine TU.valE (by decide) rfl (yes_none rfl) (by first | exact Val.loadCAgg (n := 6) rfl rfl rfl rfl (Nat.le_of_ble_eq_true rfl) | exact Val.loadAgg (n := 6) rfl rfl rfl rfl (by simp [St.cellsAt, St.cellAt, St.root, valC]; rfl) rfl | exact Val.loadAgg (n := 6) rfl rfl rfl rfl rfl rfl) (by simp only [St.put, List.set_cons_succ, List.set_cons_zero, valC, dAct, rAct, D.row, List.take_succ_cons, List.take_zero, List.map_cons, List.map_nil]; rfl) ?_
    refine TU.opM (by decide) rfl (yes_none rfl) fun K hK => ?_
    refine OpM.of (build_value rfl) (fun w0 g0 => ⟨_, OpT.buildP rfl rfl (xs := [(Go.Operand.tmp 25)]) rfl rfl rfl rfl (sz := 6) rfl rfl rfl (by decide) (by decide) rfl⟩) ?_
    refine OpT.buildP rfl rfl (xs := [(Go.Operand.tmp 25)]) rfl rfl rfl rfl (sz := 6) rfl rfl rfl (by decide) (by decide) ?_
    simp only [nrm, Nat.reduceBEq, Nat.reduceBNe, reduceIte]
    refine hK _ ?_
    clear hK K
    refine TU.opB [3000, 26] (by decide) rfl (yes_none rfl) rfl (.cons rfl rfl rfl rfl .nil) (fun w0 g0 => ⟨_, OpT.appendE rfl rfl rfl (sz := 6) rfl rfl rfl (by simp [isPlain, D.row, elD, cellD]) rfl rfl rfl rfl rfl rfl rfl (by simp; omega) rfl⟩) fun K hK => ?_
    refine OpT.appendE rfl rfl rfl (sz := 6) rfl rfl rfl (by simp [isPlain, D.row, elD, cellD]) rfl rfl rfl rfl rfl rfl rfl (by simp; omega) ?_
    simp only [nrm, Nat.reduceBEq, Nat.reduceBNe, reduceIte]
    refine hK _ ?_
    clear hK K
    refine TU.valE (by decide) rfl (yes_none rfl) (Val.nilPtr rfl rfl) (by simp only [nput]; rfl) ?_
    refine TU.valE (by decide) rfl (yes_none rfl) (by first | exact Val.field rfl rfl rfl | exact Val.fieldC rfl rfl rfl) (by simp only [nput, npf, Nat.reduceAdd]; rfl) ?_
    refine TU.opK (by decide) rfl (yes_none rfl) fun K hK => ?_
    refine OpT.store (z := 1) rfl rfl rfl rfl rfl rfl (by simp [St.store1, St.storeAll, St.cellAt, St.isMem, St.root, St.wrote, St.kill, St.setRoot, TS.kill, TV.kill, C.kill, Rt.kill, hitR, hitP, shapeOf, setRow, setAt, rowAt, D.row, D.reRow, List.isPrefixOf]; rfl) ?_ -- None
    simp only [nrm, Nat.reduceBEq, Nat.reduceBNe, reduceIte]
    refine hK _ ?_
    clear hK K
    refine TU.nil ?_
    show TC _ _ _ _ _ _
    refine TC.seq ?_
    refine TC.region ?_
    refine TL.vE (Val.move 1 rfl rfl) ?_
    refine TL.vE (Val.nilPtr rfl rfl) ?_
    refine TL.fld ?_
    refine TL.ld ?_
    refine TL.vE (by first | exact Val.len rfl rfl rfl rfl | exact Val.lenS rfl rfl rfl) ?_
    refine TL.vE (Val.leq rfl rfl rfl) ?_
    refine TL.vE (Val.assign 1 rfl rfl) ?_
    refine TL.nil ?_
    show TC _ _ _ _ _ _
    refine TC.ret ?_
    exact ⟨.inr rfl, [_], [_], _, [.sl 1 (s.All.map dInsSS), .sl 6 (s.Acts.map dAct ++ [dAct a])], rfl, by decide, rfl, by simp [refV, refC, valC, C.kill, hitR], rfl, rfl, by simp, rfl, ⟨(by rw [accept_act hqa] <;> first | rfl | (simp; done) | (simp only [rScript, dInsSS, dInsS, List.map_set, List.map_append, List.map_cons, List.map_nil]; done) | (simp only [rScript, dInsSS, dInsS, List.map_set, List.map_append, List.map_cons, List.map_nil]; rfl)), resV (by rw [accept_act hqa] <;> first | rfl | (simp; done) | (simp; omega))⟩⟩
  have hk19 := hb
  refine TC.skip ?_
  show TC _ _ _ _ _ _
  refine TC.seq ?_
  refine TC.seq ?_
  obtain rfl : qa = none := by cases qa <;> simp at hb <;> rfl
  refine TC.region ?_
  refine TL.vE (Val.move 1 rfl rfl) ?_
  refine TL.vE (Val.nilPtr rfl rfl) ?_
  refine TL.fld ?_
  refine TL.ld ?_
  refine TL.vE (by first | exact Val.len rfl rfl rfl rfl | exact Val.lenS rfl rfl rfl) ?_
  refine TL.vE (Val.gtr rfl rfl rfl) ?_
  refine TL.nil ?_
  show TC _ _ _ _ _ _
  refine TC.cond rfl (fun hb => ?_) (fun hb => ?_)
  · have hk41 := hb
    refine TC.seq ?_
    have hac : s.Acts ≠ [] := by rintro e; simp [e] at hb
    refine TC.region ?_
    refine TL.vE (Val.assign 1 rfl rfl) ?_
    refine TL.nil ?_
    show TC _ _ _ _ _ _
    refine TC.ret ?_
    exact ⟨.inr rfl, [_], [_], _, rScript s, rfl, by decide, rfl, by simp [refV, refC, valC, C.kill, hitR], rfl, rfl, by simp, rfl, ⟨(by rw [accept_late hqa hac] <;> first | rfl | (simp; done) | (simp only [rScript, dInsSS, dInsS, List.map_set, List.map_append, List.map_cons, List.map_nil]; done) | (simp only [rScript, dInsSS, dInsS, List.map_set, List.map_append, List.map_cons, List.map_nil]; rfl)), resV (by rw [accept_late hqa hac] <;> first | rfl | (simp; done) | (simp; omega))⟩⟩
  have hk41 := hb
  refine TC.skip ?_
  show TC _ _ _ _ _ _
  refine TC.seq ?_
  have hac : s.Acts = [] := by cases h : s.Acts with | nil => rfl | cons x l => (first | (rw [h] at hb; simp at hb; done) | (rw [h] at hb; simp at hb; omega))
  refine TC.region ?_
  refine TL.vE (Val.move 1 rfl rfl) ?_
  refine TL.vE (Val.nilPtr rfl rfl) ?_
  refine TL.fld ?_
  refine TL.ld ?_
  refine TL.vE (by first | exact Val.len rfl rfl rfl rfl | exact Val.lenS rfl rfl rfl) ?_
  refine TL.vE (Val.assign 1 rfl rfl) ?_
  refine TL.nil ?_
  show TC _ _ _ _ _ _
  refine TC.seq ?_
  refine TC.seq ?_
  refine TC.region ?_
  refine TL.vE (Val.move 1 rfl rfl) ?_
  refine TL.vE (by first | exact Val.len rfl rfl rfl rfl | exact Val.lenS rfl rfl rfl) ?_
  refine TL.vE (Val.eql rfl rfl rfl) ?_
  refine TL.vE (Val.move 1 rfl rfl) ?_
  refine TL.splitG 3 rfl (fun hg3 => ?_) (fun hg3 => ?_)
  · refine TL.gE rfl hg3 (Val.move 1 rfl rfl) ?_
    refine TL.gE rfl hg3 (by exact Val.indexC (d := .v (.string x0)) rfl rfl rfl rfl rfl (by omega) (by simp [hx0 (by simp at hg3; omega)])) ?_
    refine TL.guardE rfl rfl hg3 (by first | exact Val.load rfl rfl rfl rfl rfl | exact Val.loadC rfl rfl rfl) (by simp only [nput, valC]; rfl) ?_
    refine TL.gE rfl hg3 (Val.eqlS rfl rfl rfl) ?_
    refine TL.vE (Val.pickT rfl rfl hg3 rfl) ?_
    refine TL.nil ?_
    show TC _ _ _ _ _ _
    refine TC.cond rfl (fun hb => ?_) (fun hb => ?_)
    · have hk55 := hb
      refine TC.seq ?_
      have hw : ws = [wMon] := by rw [hx0 (by simp at hg3; omega)]; rw [ba_beq] at hb; simpa using hb
      refine TC.take 1000001 0 3000 (by simp [St.take, St.root, St.fresh, St.kill, St.setRoot, TS.kill, TV.kill, C.kill, Rt.kill]; rfl) ?_
      refine TC.region ?_
      refine TL.vE (Val.move 1 rfl rfl) ?_
      refine TL.vE (Val.move 1 rfl rfl) ?_
      refine TL.vE (Val.nilPtr rfl rfl) ?_
      refine TL.fld ?_
      refine TL.ld ?_
      refine TL.opK rfl fun K hK => ?_
      refine OpT.buildNil rfl rfl rfl rfl rfl 1 ?_
      simp only [nrm, Nat.reduceBEq, Nat.reduceBNe, reduceIte]
      refine hK _ ?_
      clear hK K
      refine TL.opK rfl fun K hK => ?_
      refine OpT.appendOE rfl rfl rfl rfl rfl rfl (by decide) (by simp [D.row]) rfl rfl rfl rfl rfl rfl rfl (by simp; omega) ?_
      simp only [nrm, Nat.reduceBEq, Nat.reduceBNe, reduceIte]
      refine hK _ ?_
      clear hK K
      refine TL.vE (Val.nilPtr rfl rfl) ?_
      refine TL.fld ?_
      refine TL.opK rfl fun K hK => ?_
      refine OpT.store (z := 1) rfl rfl rfl rfl rfl rfl (by simp [St.store1, St.storeAll, St.cellAt, St.isMem, St.root, St.wrote, St.kill, St.setRoot, TS.kill, TV.kill, C.kill, Rt.kill, hitR, hitP, shapeOf, setRow, setAt, rowAt, D.row, D.reRow, List.isPrefixOf]; rfl) ?_ -- None
      simp only [nrm, Nat.reduceBEq, Nat.reduceBNe, reduceIte]
      refine hK _ ?_
      clear hK K
      refine TL.nil ?_
      show TC _ _ _ _ _ _
      refine TC.seq ?_
      refine TC.region ?_
      refine TL.vE (Val.move 1 rfl rfl) ?_
      refine TL.vE (Val.lss rfl rfl rfl) ?_
      refine TL.vE (Val.assign 1 rfl rfl) ?_
      refine TL.nil ?_
      show TC _ _ _ _ _ _
      refine TC.ret ?_
      exact ⟨.inr rfl, [_], [_], _, [.sl 1 (s.All.map dInsSS ++ [.sl 1 []]), .sl 6 (s.Acts.map dAct)], rfl, by decide, rfl, by simp [refV, refC, valC, C.kill, hitR], rfl, rfl, by simp, rfl, ⟨(by rw [accept_mon hqa hac hw] <;> first | rfl | (simp; done) | (simp only [rScript, dInsSS, dInsS, List.map_set, List.map_append, List.map_cons, List.map_nil]; done) | (simp only [rScript, dInsSS, dInsS, List.map_set, List.map_append, List.map_cons, List.map_nil]; rfl)), resV (by rw [accept_mon hqa hac hw] <;> first | rfl | (simp; done) | (simp; omega))⟩⟩
    have hk55 := hb
    refine TC.skip ?_
    show TC _ _ _ _ _ _
    refine TC.seq ?_
    refine TC.seq ?_
    have hw : ws ≠ [wMon] := by intro e; first | (rw [e] at hg3; simp at hg3; done) | (have h1 := hx0 (by rw [e]; rfl); rw [e] at h1; rw [ba_beq] at hb; simp only [List.cons.injEq, and_true] at h1; rw [← h1] at hb; simp at hb)
    refine TC.region ?_
    refine TL.vE (Val.move 1 rfl rfl) ?_
    refine TL.vE (Val.eql rfl rfl rfl) ?_
    refine TL.nil ?_
    show TC _ _ _ _ _ _
    refine TC.cond rfl (fun hb => ?_) (fun hb => ?_)
    · have hk68 := hb
      refine TC.seq ?_
      have hA : s.All = [] := by cases h : s.All with | nil => rfl | cons x l => (first | (rw [h] at hb; simp at hb; done) | (rw [h] at hb; simp at hb; omega))
      refine TC.region ?_
      refine TL.vE (Val.assign 1 rfl rfl) ?_
      refine TL.nil ?_
      show TC _ _ _ _ _ _
      refine TC.ret ?_
      exact ⟨.inr rfl, [_], [_], _, rScript s, rfl, by decide, rfl, by simp [refV, refC, valC, C.kill, hitR], rfl, rfl, by simp, rfl, ⟨(by rw [accept_none hqa hac hw hA] <;> first | rfl | (simp; done) | (simp only [rScript, dInsSS, dInsS, List.map_set, List.map_append, List.map_cons, List.map_nil]; done) | (simp only [rScript, dInsSS, dInsS, List.map_set, List.map_append, List.map_cons, List.map_nil]; rfl)), resV (by rw [accept_none hqa hac hw hA] <;> first | rfl | (simp; done) | (simp; omega))⟩⟩
    have hk68 := hb
    refine TC.skip ?_
    show TC _ _ _ _ _ _
    refine TC.seq ?_
    obtain ⟨m, hm⟩ : ∃ m, s.All.length = m + 1 := by cases h : s.All with | nil => (rw [h] at hb; simp at hb) | cons x l => exact ⟨l.length, rfl⟩
    obtain ⟨g, hg⟩ := at_of (xs := s.All) (k := m) (by omega)
    have hm1 : (((s.All.map dInsSS).length : Nat) : Int) - 1 = (m : Int) := by simp; omega
    have hgl := hs3 g (List.mem_of_getElem? hg)
    have hgm : s.All[s.All.length - 1]? = some g := by rw [hm]; exact hg
    refine TC.region ?_
    refine TL.vE (Val.move 1 rfl rfl) ?_
    refine TL.vE (Val.nilPtr rfl rfl) ?_
    refine TL.fld ?_
    refine TL.ld ?_
    refine TL.vE (Val.move 1 rfl rfl) ?_
    refine TL.vE (by exact Val.toI (Val.sub rfl rfl rfl (by simp; omega) (by simp; omega)) hm1) ?_
    refine TL.vE (by exact Val.index rfl rfl rfl rfl rfl rfl (by omega) (by simp; omega)) ?_
    refine TL.vE (Val.assign 1 rfl rfl) ?_
    refine TL.nil ?_
    show TC _ _ _ _ _ _
    refine TC.seq ?_
    refine TC.region ?_
    refine TL.vE (Val.move 1 rfl rfl) ?_
    refine TL.vE (Val.nilPtr rfl rfl) ?_
    refine TL.valE rfl (by exact Val.load rfl rfl rfl (by simp [St.cellAt, St.root, rowAt, setRow, setAt, D.row, D.reRow, listOf, List.getElem?_set_self', List.set_set, hg]; first | rfl | exact ⟨rfl, rfl⟩) rfl) (by simp only [nput, valC]; rfl) ?_
    refine TL.vE (by exact Val.len rfl rfl (by simp [St.cellAt, St.root, rowAt, setRow, setAt, D.row, D.reRow, listOf, List.getElem?_set_self', List.set_set, hg]; first | rfl | exact ⟨rfl, rfl⟩) rfl) ?_
    refine TL.vE (Val.assign 1 rfl rfl) ?_
    refine TL.nil ?_
    show TC _ _ _ _ _ _
    refine TC.seq ?_
    refine TC.seq ?_
    refine TC.region ?_
    refine TL.vE (Val.move 1 rfl rfl) ?_
    refine TL.vE (by first | exact Val.len rfl rfl rfl rfl | exact Val.lenS rfl rfl rfl) ?_
    refine TL.vE (Val.eql rfl rfl rfl) ?_
    refine TL.vE (Val.move 1 rfl rfl) ?_
    refine TL.splitG 3 rfl (fun hg3 => ?_) (fun hg3 => ?_)
    · refine TL.gE rfl hg3 (Val.move 1 rfl rfl) ?_
      refine TL.gE rfl hg3 (by exact Val.indexC (d := .v (.string x0)) rfl rfl rfl rfl rfl (by omega) (by simp [hx0 (by simp at hg3; omega)])) ?_
      refine TL.guardE rfl rfl hg3 (by first | exact Val.load rfl rfl rfl rfl rfl | exact Val.loadC rfl rfl rfl) (by simp only [nput, valC]; rfl) ?_
      refine TL.gE rfl hg3 (Val.eqlS rfl rfl rfl) ?_
      refine TL.vE (Val.pickT rfl rfl hg3 rfl) ?_
      refine TL.nil ?_
      show TC _ _ _ _ _ _
      refine TC.cond rfl (fun hb => ?_) (fun hb => ?_)
      · have hk88 := hb
        refine TC.seq ?_
        have hv : ws = [wGst] := by rw [hx0 (by simp at hg3; omega)]; rw [ba_beq] at hb; simpa using hb
        refine TC.region ?_
        refine TL.vE (Val.move 1 rfl rfl) ?_
        refine TL.vE (Val.move 1 rfl rfl) ?_
        refine TL.vE (Val.nilPtr rfl rfl) ?_
        refine TL.valE rfl (by exact Val.load rfl rfl rfl (by simp [St.cellAt, St.root, rowAt, setRow, setAt, D.row, D.reRow, listOf, List.getElem?_set_self', List.set_set, hg]; first | rfl | exact ⟨rfl, rfl⟩) rfl) (by simp only [nput, valC]; rfl) ?_
        refine TL.takeN 1000001 [(0, m)] 0 3000 (by simp [St.takeN, St.cellAt, rowAt, setRow, setAt, D.row, D.reRow, reT, reC, St.take, St.root, St.fresh, St.kill, St.setRoot, TS.kill, TV.kill, C.kill, Rt.kill, hitR, hitP, shapeOf, List.isPrefixOf, List.getElem?_set_self', List.set_set, hg]; rfl) ?_
        refine TL.opK rfl fun K hK => ?_
        refine OpT.buildNil rfl rfl rfl rfl rfl 2 ?_
        simp only [nrm, Nat.reduceBEq, Nat.reduceBNe, reduceIte]
        refine hK _ ?_
        clear hK K
        refine TL.opK rfl fun K hK => ?_
        refine OpT.appendOE rfl rfl rfl rfl rfl rfl (by decide) (by simp [D.row]) rfl rfl rfl rfl rfl rfl rfl (by simp; omega) ?_
        simp only [nrm, Nat.reduceBEq, Nat.reduceBNe, reduceIte]
        refine hK _ ?_
        clear hK K
        refine TL.vE (Val.nilPtr rfl rfl) ?_
        refine TL.opK rfl fun K hK => ?_
        refine OpT.store (z := 1) rfl rfl rfl rfl (by simp [St.cellAt, St.root, rowAt, setRow, setAt, D.row, D.reRow, listOf, List.getElem?_set_self', List.set_set, hg]; first | rfl | exact ⟨rfl, rfl⟩) rfl (by simp [St.store1, St.storeAll, St.cellAt, St.isMem, St.root, St.wrote, St.kill, St.setRoot, TS.kill, TV.kill, C.kill, Rt.kill, hitR, hitP, shapeOf, setRow, setAt, rowAt, D.row, D.reRow, List.isPrefixOf, List.getElem?_set_self', List.set_set, hg]; rfl) ?_
        simp only [nrm, Nat.reduceBEq, Nat.reduceBNe, reduceIte]
        refine hK _ ?_
        clear hK K
        refine TL.nil ?_
        show TC _ _ _ _ _ _
        refine TC.seq ?_
        refine TC.region ?_
        refine TL.vE (Val.move 1 rfl rfl) ?_
        refine TL.vE (Val.lss rfl rfl rfl) ?_
        refine TL.vE (Val.assign 1 rfl rfl) ?_
        refine TL.nil ?_
        show TC _ _ _ _ _ _
        refine TC.ret ?_
        exact ⟨.inr rfl, [_], [_], _, [.sl 1 ((s.All.map dInsSS).set m (.sl 1 (g.map dInsS ++ [.sl 2 []]))), .sl 6 (s.Acts.map dAct)], rfl, by decide, rfl, by simp [refV, refC, valC, C.kill, hitR], rfl, rfl, by simp, rfl, ⟨(by rw [accept_gst hqa hac hw hm hg hv] <;> first | rfl | (simp; done) | (simp only [rScript, dInsSS, dInsS, List.map_set, List.map_append, List.map_cons, List.map_nil]; done) | (simp only [rScript, dInsSS, dInsS, List.map_set, List.map_append, List.map_cons, List.map_nil]; rfl)), resV (by rw [accept_gst hqa hac hw hm hg hv] <;> first | rfl | (simp; done) | (simp; omega))⟩⟩
      have hk88 := hb
      refine TC.skip ?_
      show TC _ _ _ _ _ _
      refine TC.seq ?_
      have hv : ws ≠ [wGst] := by intro e; first | (rw [e] at hg3; simp at hg3; done) | (have h1 := hx0 (by rw [e]; rfl); rw [e] at h1; rw [ba_beq] at hb; simp only [List.cons.injEq, and_true] at h1; rw [← h1] at hb; simp at hb)
      refine TC.region ?_
      refine TL.vE (Val.move 1 rfl rfl) ?_
      refine TL.opK rfl fun K hK => ?_
      refine OpT.callG rfl rfl rfl rfl rfl rfl ((impl_ReadIns_q hqi).k) (by repeat first | exact .nil | refine Snaps.cons (.ro _) ?_ | refine Snaps.cons (.aggRo rfl) ?_ | refine Snaps.cons (.cptr _) ?_ | refine Snaps.cons (.fn _) ?_ | refine Snaps.cons (.ownRef rfl (by first | assumption | exact whole_map _ _ (fun w c hc => by simp only [D.row, List.mem_cons, List.not_mem_nil, or_false] at hc; subst hc; exact .v _))) ?_ | refine Snaps.cons (.aggR (by repeat first | exact .nil | refine SnapCs.cons (.ro _) ?_ | refine SnapCs.cons (.ref rfl (by first | assumption | exact whole_map _ _ (fun w c hc => by simp only [D.row, List.mem_cons, List.not_mem_nil, or_false] at hc; subst hc; exact .v _))) ?_)) ?_) rfl ?_
      simp only [nrm, Nat.reduceBEq, Nat.reduceBNe, reduceIte]
      refine hK _ ?_
      clear hK K
      refine TL.vE (Val.move 1 rfl rfl) ?_
      refine TL.vE (Val.extract rfl rfl rfl) ?_
      refine TL.vE (Val.extract rfl rfl rfl) ?_
      refine TL.opK rfl fun K hK => ?_
      refine OpT.alloc rfl rfl rfl rfl rfl rfl ?_
      simp only [nrm, Nat.reduceBEq, Nat.reduceBNe, reduceIte]
      refine hK _ ?_
      clear hK K
      refine TL.opK rfl fun K hK => ?_
      refine OpT.storeAgg rfl rfl rfl rfl rfl rfl (by simp [St.store1, St.storeAll, St.cellAt, St.isMem, St.root, St.wrote, St.kill, St.setRoot, TS.kill, TV.kill, C.kill, Rt.kill, hitR, hitP, shapeOf, setRow, setAt, rowAt, D.row, D.reRow, List.isPrefixOf]; rfl) ?_ -- None
      simp only [nrm, Nat.reduceBEq, Nat.reduceBNe, reduceIte]
      refine hK _ ?_
      clear hK K
      refine TL.vE (Val.assign 1 rfl rfl) ?_
      refine TL.nil ?_
      show TC _ _ _ _ _ _
      refine TC.seq ?_
      refine TC.seq ?_
      refine TC.region ?_
      refine TL.vE (Val.move 1 rfl rfl) ?_
      refine TL.vE (Val.not rfl rfl) ?_
      refine TL.vE (Val.move 1 rfl rfl) ?_
      refine TL.splitG 2 rfl (fun hg2 => ?_) (fun hg2 => ?_)
      · iterate 2 (refine TL.skip (nope_b rfl rfl hg2) (by simp only [nput]; rfl) ?_)
        refine TL.vE (Val.pickT rfl rfl hg2 rfl) ?_
        refine TL.nil ?_
        show TC _ _ _ _ _ _
        refine TC.cond rfl (fun hb => ?_) (fun hb => absurd hb (by simp))
        refine TC.seq ?_
        have hno : qi = none ∨ g = [] := by first | (left; cases qi <;> simp at hg2 <;> rfl) | (right; cases h : g with | nil => rfl | cons x l => (first | (rw [h] at hb; simp at hb; done) | (rw [h] at hb; simp at hb; omega)))
        refine TC.region ?_
        refine TL.vE (Val.assign 1 rfl rfl) ?_
        refine TL.nil ?_
        show TC _ _ _ _ _ _
        refine TC.ret ?_
        exact ⟨.inr rfl, [_], [_], _, rScript s, rfl, by decide, rfl, by simp [refV, refC, valC, C.kill, hitR], rfl, rfl, by simp, rfl, ⟨(by rw [accept_bad hqa hac hw hm hg hv (hno.imp (fun e => by rw [hqi, e]) id)] <;> first | rfl | (simp; done) | (simp only [rScript, dInsSS, dInsS, List.map_set, List.map_append, List.map_cons, List.map_nil]; done) | (simp only [rScript, dInsSS, dInsS, List.map_set, List.map_append, List.map_cons, List.map_nil]; rfl)), resV (by rw [accept_bad hqa hac hw hm hg hv (hno.imp (fun e => by rw [hqi, e]) id)] <;> first | rfl | (simp; done) | (simp; omega))⟩⟩
      · refine TL.gE rfl hg2 (Val.move 1 rfl rfl) ?_
        refine TL.gE rfl hg2 (Val.eql rfl rfl rfl) ?_
        refine TL.vE (Val.pickF rfl rfl hg2 rfl) ?_
        refine TL.nil ?_
        show TC _ _ _ _ _ _
        refine TC.cond rfl (fun hb => ?_) (fun hb => ?_)
        · have hk108 := hb
          refine TC.seq ?_
          have hno : qi = none ∨ g = [] := by first | (left; cases qi <;> simp at hg2 <;> rfl) | (right; cases h : g with | nil => rfl | cons x l => (first | (rw [h] at hb; simp at hb; done) | (rw [h] at hb; simp at hb; omega)))
          refine TC.region ?_
          refine TL.vE (Val.assign 1 rfl rfl) ?_
          refine TL.nil ?_
          show TC _ _ _ _ _ _
          refine TC.ret ?_
          exact ⟨.inr rfl, [_], [_], _, rScript s, rfl, by decide, rfl, by simp [refV, refC, valC, C.kill, hitR], rfl, rfl, by simp, rfl, ⟨(by rw [accept_bad hqa hac hw hm hg hv (hno.imp (fun e => by rw [hqi, e]) id)] <;> first | rfl | (simp; done) | (simp only [rScript, dInsSS, dInsS, List.map_set, List.map_append, List.map_cons, List.map_nil]; done) | (simp only [rScript, dInsSS, dInsS, List.map_set, List.map_append, List.map_cons, List.map_nil]; rfl)), resV (by rw [accept_bad hqa hac hw hm hg hv (hno.imp (fun e => by rw [hqi, e]) id)] <;> first | rfl | (simp; done) | (simp; omega))⟩⟩
        have hk108 := hb
        refine TC.skip ?_
        show TC _ _ _ _ _ _
        refine TC.seq ?_
        obtain ⟨i, rfl⟩ : ∃ i, qi = some i := by cases qi <;> simp at hg2 <;> exact ⟨_, rfl⟩
        obtain ⟨j, hjl⟩ : ∃ j, g.length = j + 1 := by cases h : g with | nil => (rw [h] at hb; simp at hb) | cons x l => exact ⟨l.length, rfl⟩
        obtain ⟨p, hj⟩ := at_of (xs := g) (k := j) (by omega)
        have hj1 : (((g.map dInsS).length : Nat) : Int) - 1 = (j : Int) := by simp; omega
        have hj2 : ((g.length : Nat) : Int) - 1 = (j : Int) := by omega
        have hpl := hgl.2 p (List.mem_of_getElem? hj)
        have hgj : g[g.length - 1]? = some p := by rw [hjl]; exact hj
        refine TC.regionV [14, 16] [14] [10] [(0, 2), (1, 2), (2, 2), (3, 2), (4, 2), (5, 0), (6, 0), (7, 0), (8, 0), (9, 0), (10, 0), (11, 0), (12, 0), (13, 1), (14, 1), (15, 0), (16, 1)] rfl (by decide +kernel) ?_
        refine TU.valS (by decide) rfl (yes_none rfl) (ValS.pure (Val.move 1 rfl rfl) rfl) (by simp only [nput]; rfl) ?_
        refine TU.valS (by decide) rfl (yes_none rfl) (ValS.nilPtr rfl rfl) (by simp only [nput]; rfl) ?_
        refine TU.valS (by decide) rfl (yes_none rfl) (by exact ValS.load rfl rfl 10 (by decide) rfl rfl (by simp [St.cellAt, St.root, rowAt, setRow, setAt, D.row, D.reRow, listOf, List.getElem?_set_self', List.set_set, hg]; first | rfl | exact ⟨rfl, rfl⟩) rfl) (by simp only [nput, valC]; rfl) ?_
        refine TU.valS (by decide) rfl (yes_none rfl) (ValS.pure (Val.move 1 rfl rfl) rfl) (by simp only [nput]; rfl) ?_
        refine TU.valS (by decide) rfl (yes_none rfl) (by exact (by first | exact ValS.toI (ValS.sub rfl rfl rfl (by (try simp); omega) (by (try simp); omega)) hj2 | exact ValS.toI (ValS.sub rfl rfl rfl (by (try simp); omega) (by (try simp); omega)) hj1)) (by simp only [nput]; rfl) ?_
        refine TU.valE (by decide) rfl (yes_none rfl) (Val.move 1 rfl rfl) (by simp only [nput]; rfl) ?_
        refine TU.valE (by decide) rfl (yes_none rfl) (Val.nilPtr rfl rfl) (by simp only [nput]; rfl) ?_
        refine TU.valE (by decide) rfl (yes_none rfl) (by exact Val.load rfl rfl rfl (by simp [St.cellAt, St.root, rowAt, setRow, setAt, D.row, D.reRow, listOf, List.getElem?_set_self', List.set_set, hg]; first | rfl | exact ⟨rfl, rfl⟩) rfl) (by simp only [nput, valC]; rfl) ?_
        refine TU.valE (by decide) rfl (yes_none rfl) (Val.move 1 rfl rfl) (by simp only [nput]; rfl) ?_
        refine TU.valE (by decide) rfl (yes_none rfl) (by exact (by first | exact Val.toI (Val.sub rfl rfl rfl (by (try simp); omega) (by (try simp); omega)) hj2 | exact Val.toI (Val.sub rfl rfl rfl (by (try simp); omega) (by (try simp); omega)) hj1)) (by simp only [nput]; rfl) ?_
        refine TU.valE (by decide) rfl (yes_none rfl) (by exact Val.index rfl rfl rfl rfl rfl (by simp [St.cellAt, St.root, rowAt, setRow, setAt, D.row, D.reRow, listOf, List.getElem?_set_self', List.set_set, hg]; first | rfl | exact ⟨rfl, rfl⟩) (by omega) (by simp; omega)) (by simp only [nput]; rfl) ?_
        refine TU.valE (by decide) rfl (yes_none rfl) (by exact Val.load rfl rfl rfl (by simp [St.cellAt, St.root, rowAt, setRow, setAt, D.row, D.reRow, listOf, List.getElem?_set_self', List.set_set, hg, hj]; first | rfl | exact ⟨rfl, rfl⟩) rfl) (by simp only [nput, valC]; rfl) ?_
        refine TU.valE (by decide) rfl (yes_none rfl) (by first | exact Val.loadCAgg (n := 2) rfl rfl rfl rfl (Nat.le_of_ble_eq_true rfl) | exact Val.loadAgg (n := 2) rfl rfl rfl rfl (by simp [St.cellsAt, St.cellAt, St.root, valC]; rfl) rfl | exact Val.loadAgg (n := 2) rfl rfl rfl rfl rfl rfl) (by simp only [St.put, List.set_cons_succ, List.set_cons_zero, valC, dIns, rIns, D.row, List.take_succ_cons, List.take_zero, List.map_cons, List.map_nil]; rfl) ?_
        refine TU.takeN 1000001 [(0, m), (0, j)] 0 3000 (by simp [St.takeN, St.cellAt, rowAt, setRow, setAt, D.row, D.reRow, reT, reC, St.take, St.root, St.fresh, St.kill, St.setRoot, TS.kill, TV.kill, C.kill, Rt.kill, hitR, hitP, shapeOf, List.isPrefixOf, List.getElem?_set_self', List.set_set, hg, hj]; rfl) ?_
        refine TU.opM (by decide) rfl (yes_none rfl) fun K hK => ?_
        refine OpM.of (build_value rfl) (fun w0 g0 => ⟨_, OpT.buildP rfl rfl (xs := [(Go.Operand.tmp 121)]) rfl rfl rfl rfl (sz := 2) rfl rfl rfl (by decide) (by decide) rfl⟩) ?_
        refine OpT.buildP rfl rfl (xs := [(Go.Operand.tmp 121)]) rfl rfl rfl rfl (sz := 2) rfl rfl rfl (by decide) (by decide) ?_
        simp only [nrm, Nat.reduceBEq, Nat.reduceBNe, reduceIte]
        refine hK _ ?_
        clear hK K
        refine TU.opB [3000, 122] (by decide) rfl (yes_none rfl) rfl (.cons rfl (by simp [St.cellAt, St.root, rowAt, setRow, setAt, D.row, D.reRow, listOf, List.getElem?_set_self', List.set_set, hg, hj]; first | rfl | exact ⟨rfl, rfl⟩) rfl rfl .nil) (fun w0 g0 => ⟨_, OpT.appendE rfl rfl rfl (sz := 2) rfl rfl rfl (by simp [isPlain, D.row, elD, cellD]) rfl rfl rfl rfl rfl rfl rfl (by simp; omega) rfl⟩) fun K hK => ?_
        refine OpT.appendE rfl rfl rfl (sz := 2) rfl rfl rfl (by simp [isPlain, D.row, elD, cellD]) rfl rfl rfl rfl rfl rfl rfl (by simp; omega) ?_
        simp only [nrm, Nat.reduceBEq, Nat.reduceBNe, reduceIte]
        refine hK _ ?_
        clear hK K
        refine TU.valE (by decide) rfl (yes_none rfl) (by exact Val.index rfl rfl rfl rfl rfl (by simp [St.cellAt, St.root, rowAt, setRow, setAt, D.row, D.reRow, listOf, List.getElem?_set_self', List.set_set, hg, hj]; first | rfl | exact ⟨rfl, rfl⟩) (by omega) (by simp; omega)) (by simp only [nput]; rfl) ?_
        refine TU.opK (by decide) rfl (yes_none rfl) fun K hK => ?_
        refine OpT.store (z := 1) rfl rfl rfl rfl (by simp [St.cellAt, St.root, rowAt, setRow, setAt, D.row, D.reRow, listOf, List.getElem?_set_self', List.set_set, hg, hj]; first | rfl | exact ⟨rfl, rfl⟩) rfl (by simp [St.store1, St.storeAll, St.cellAt, St.isMem, St.root, St.wrote, St.kill, St.setRoot, TS.kill, TV.kill, C.kill, Rt.kill, hitR, hitP, shapeOf, setRow, setAt, rowAt, D.row, D.reRow, List.isPrefixOf, List.getElem?_set_self', List.set_set, hg, hj]; rfl) ?_
        simp only [nrm, Nat.reduceBEq, Nat.reduceBNe, reduceIte]
        refine hK _ ?_
        clear hK K
        refine TU.nil ?_
        show TC _ _ _ _ _ _
        refine TC.seq ?_
        refine TC.region ?_
        refine TL.vE (Val.move 1 rfl rfl) ?_
        refine TL.vE (Val.nilPtr rfl rfl) ?_
        refine TL.valE rfl (by exact Val.load rfl rfl rfl (by simp [St.cellAt, St.root, rowAt, setRow, setAt, D.row, D.reRow, listOf, List.getElem?_set_self', List.set_set, hg, hj]; first | rfl | exact ⟨rfl, rfl⟩) rfl) (by simp only [nput, valC]; rfl) ?_
        refine TL.vE (Val.move 1 rfl rfl) ?_
        refine TL.vE (by exact (by first | exact Val.toI (Val.sub rfl rfl rfl (by (try simp); omega) (by (try simp); omega)) hj2 | exact Val.toI (Val.sub rfl rfl rfl (by (try simp); omega) (by (try simp); omega)) hj1)) ?_
        refine TL.vE (by exact Val.index rfl rfl rfl rfl rfl (by simp [St.cellAt, St.root, rowAt, setRow, setAt, D.row, D.reRow, listOf, List.getElem?_set_self', List.set_set, hg, hj]; first | rfl | exact ⟨rfl, rfl⟩) (by omega) (by simp; omega)) ?_
        refine TL.valE rfl (by exact Val.load rfl rfl rfl (by simp [St.cellAt, St.root, rowAt, setRow, setAt, D.row, D.reRow, listOf, List.getElem?_set_self', List.set_set, hg, hj]; first | rfl | exact ⟨rfl, rfl⟩) rfl) (by simp only [nput, valC]; rfl) ?_
        refine TL.vE (by exact Val.len rfl rfl (by simp [St.cellAt, St.root, rowAt, setRow, setAt, D.row, D.reRow, listOf, List.getElem?_set_self', List.set_set, hg, hj]; first | rfl | exact ⟨rfl, rfl⟩) rfl) ?_
        refine TL.vE (Val.leq rfl rfl rfl) ?_
        refine TL.vE (Val.assign 1 rfl rfl) ?_
        refine TL.nil ?_
        show TC _ _ _ _ _ _
        refine TC.ret ?_
        exact ⟨.inr rfl, [_], [_], _, [.sl 1 ((s.All.map dInsSS).set m (.sl 1 ((g.map dInsS).set j (.sl 2 (p.map dIns ++ [dIns i]))))), .sl 6 (s.Acts.map dAct)], rfl, by decide, rfl, by simp [refV, refC, valC, C.kill, hitR], rfl, rfl, by simp, rfl, ⟨(by rw [accept_ins hqa hac hw hm hg hv hqi hjl hj] <;> first | rfl | (simp; done) | (simp only [rScript, dInsSS, dInsS, List.map_set, List.map_append, List.map_cons, List.map_nil]; done) | (simp only [rScript, dInsSS, dInsS, List.map_set, List.map_append, List.map_cons, List.map_nil]; rfl)), resV (by rw [accept_ins hqa hac hw hm hg hv hqi hjl hj] <;> first | rfl | (simp; done) | (simp; omega))⟩⟩
    · iterate 4 (refine TL.skip (nope_b rfl rfl hg3) (by simp only [nput]; rfl) ?_)
      refine TL.vE (Val.pickF rfl rfl hg3 rfl) ?_
      refine TL.nil ?_
      show TC _ _ _ _ _ _
      refine TC.cond rfl (fun hb => absurd hb (by simp)) (fun hb => ?_)
      refine TC.skip ?_
      show TC _ _ _ _ _ _
      refine TC.seq ?_
      have hv : ws ≠ [wGst] := by intro e; first | (rw [e] at hg3; simp at hg3; done) | (have h1 := hx0 (by rw [e]; rfl); rw [e] at h1; rw [ba_beq] at hb; simp only [List.cons.injEq, and_true] at h1; rw [← h1] at hb; simp at hb)
      refine TC.region ?_
      refine TL.vE (Val.move 1 rfl rfl) ?_
      refine TL.opK rfl fun K hK => ?_
      refine OpT.callG rfl rfl rfl rfl rfl rfl ((impl_ReadIns_q hqi).k) (by repeat first | exact .nil | refine Snaps.cons (.ro _) ?_ | refine Snaps.cons (.aggRo rfl) ?_ | refine Snaps.cons (.cptr _) ?_ | refine Snaps.cons (.fn _) ?_ | refine Snaps.cons (.ownRef rfl (by first | assumption | exact whole_map _ _ (fun w c hc => by simp only [D.row, List.mem_cons, List.not_mem_nil, or_false] at hc; subst hc; exact .v _))) ?_ | refine Snaps.cons (.aggR (by repeat first | exact .nil | refine SnapCs.cons (.ro _) ?_ | refine SnapCs.cons (.ref rfl (by first | assumption | exact whole_map _ _ (fun w c hc => by simp only [D.row, List.mem_cons, List.not_mem_nil, or_false] at hc; subst hc; exact .v _))) ?_)) ?_) rfl ?_
      simp only [nrm, Nat.reduceBEq, Nat.reduceBNe, reduceIte]
      refine hK _ ?_
      clear hK K
      refine TL.vE (Val.move 1 rfl rfl) ?_
      refine TL.vE (Val.extract rfl rfl rfl) ?_
      refine TL.vE (Val.extract rfl rfl rfl) ?_
      refine TL.opK rfl fun K hK => ?_
      refine OpT.alloc rfl rfl rfl rfl rfl rfl ?_
      simp only [nrm, Nat.reduceBEq, Nat.reduceBNe, reduceIte]
      refine hK _ ?_
      clear hK K
      refine TL.opK rfl fun K hK => ?_
      refine OpT.storeAgg rfl rfl rfl rfl rfl rfl (by simp [St.store1, St.storeAll, St.cellAt, St.isMem, St.root, St.wrote, St.kill, St.setRoot, TS.kill, TV.kill, C.kill, Rt.kill, hitR, hitP, shapeOf, setRow, setAt, rowAt, D.row, D.reRow, List.isPrefixOf]; rfl) ?_ -- None
      simp only [nrm, Nat.reduceBEq, Nat.reduceBNe, reduceIte]
      refine hK _ ?_
      clear hK K
      refine TL.vE (Val.assign 1 rfl rfl) ?_
      refine TL.nil ?_
      show TC _ _ _ _ _ _
      refine TC.seq ?_
      refine TC.seq ?_
      refine TC.region ?_
      refine TL.vE (Val.move 1 rfl rfl) ?_
      refine TL.vE (Val.not rfl rfl) ?_
      refine TL.vE (Val.move 1 rfl rfl) ?_
      refine TL.splitG 2 rfl (fun hg2 => ?_) (fun hg2 => ?_)
      · iterate 2 (refine TL.skip (nope_b rfl rfl hg2) (by simp only [nput]; rfl) ?_)
        refine TL.vE (Val.pickT rfl rfl hg2 rfl) ?_
        refine TL.nil ?_
        show TC _ _ _ _ _ _
        refine TC.cond rfl (fun hb => ?_) (fun hb => absurd hb (by simp))
        refine TC.seq ?_
        have hno : qi = none ∨ g = [] := by first | (left; cases qi <;> simp at hg2 <;> rfl) | (right; cases h : g with | nil => rfl | cons x l => (first | (rw [h] at hb; simp at hb; done) | (rw [h] at hb; simp at hb; omega)))
        refine TC.region ?_
        refine TL.vE (Val.assign 1 rfl rfl) ?_
        refine TL.nil ?_
        show TC _ _ _ _ _ _
        refine TC.ret ?_
        exact ⟨.inr rfl, [_], [_], _, rScript s, rfl, by decide, rfl, by simp [refV, refC, valC, C.kill, hitR], rfl, rfl, by simp, rfl, ⟨(by rw [accept_bad hqa hac hw hm hg hv (hno.imp (fun e => by rw [hqi, e]) id)] <;> first | rfl | (simp; done) | (simp only [rScript, dInsSS, dInsS, List.map_set, List.map_append, List.map_cons, List.map_nil]; done) | (simp only [rScript, dInsSS, dInsS, List.map_set, List.map_append, List.map_cons, List.map_nil]; rfl)), resV (by rw [accept_bad hqa hac hw hm hg hv (hno.imp (fun e => by rw [hqi, e]) id)] <;> first | rfl | (simp; done) | (simp; omega))⟩⟩
      · refine TL.gE rfl hg2 (Val.move 1 rfl rfl) ?_
        refine TL.gE rfl hg2 (Val.eql rfl rfl rfl) ?_
        refine TL.vE (Val.pickF rfl rfl hg2 rfl) ?_
        refine TL.nil ?_
        show TC _ _ _ _ _ _
        refine TC.cond rfl (fun hb => ?_) (fun hb => ?_)
        · have hk108 := hb
          refine TC.seq ?_
          have hno : qi = none ∨ g = [] := by first | (left; cases qi <;> simp at hg2 <;> rfl) | (right; cases h : g with | nil => rfl | cons x l => (first | (rw [h] at hb; simp at hb; done) | (rw [h] at hb; simp at hb; omega)))
          refine TC.region ?_
          refine TL.vE (Val.assign 1 rfl rfl) ?_
          refine TL.nil ?_
          show TC _ _ _ _ _ _
          refine TC.ret ?_
          exact ⟨.inr rfl, [_], [_], _, rScript s, rfl, by decide, rfl, by simp [refV, refC, valC, C.kill, hitR], rfl, rfl, by simp, rfl, ⟨(by rw [accept_bad hqa hac hw hm hg hv (hno.imp (fun e => by rw [hqi, e]) id)] <;> first | rfl | (simp; done) | (simp only [rScript, dInsSS, dInsS, List.map_set, List.map_append, List.map_cons, List.map_nil]; done) | (simp only [rScript, dInsSS, dInsS, List.map_set, List.map_append, List.map_cons, List.map_nil]; rfl)), resV (by rw [accept_bad hqa hac hw hm hg hv (hno.imp (fun e => by rw [hqi, e]) id)] <;> first | rfl | (simp; done) | (simp; omega))⟩⟩
        have hk108 := hb
        refine TC.skip ?_
        show TC _ _ _ _ _ _
        refine TC.seq ?_
        obtain ⟨i, rfl⟩ : ∃ i, qi = some i := by cases qi <;> simp at hg2 <;> exact ⟨_, rfl⟩
        obtain ⟨j, hjl⟩ : ∃ j, g.length = j + 1 := by cases h : g with | nil => (rw [h] at hb; simp at hb) | cons x l => exact ⟨l.length, rfl⟩
        obtain ⟨p, hj⟩ := at_of (xs := g) (k := j) (by omega)
        have hj1 : (((g.map dInsS).length : Nat) : Int) - 1 = (j : Int) := by simp; omega
        have hj2 : ((g.length : Nat) : Int) - 1 = (j : Int) := by omega
        have hpl := hgl.2 p (List.mem_of_getElem? hj)
        have hgj : g[g.length - 1]? = some p := by rw [hjl]; exact hj
        refine TC.regionV [14, 16] [14] [10] [(0, 2), (1, 2), (2, 2), (3, 2), (4, 2), (5, 0), (6, 0), (7, 0), (8, 0), (9, 0), (10, 0), (11, 0), (12, 0), (13, 1), (14, 1), (15, 0), (16, 1)] rfl (by decide +kernel) ?_
        refine TU.valS (by decide) rfl (yes_none rfl) (ValS.pure (Val.move 1 rfl rfl) rfl) (by simp only [nput]; rfl) ?_
        refine TU.valS (by decide) rfl (yes_none rfl) (ValS.nilPtr rfl rfl) (by simp only [nput]; rfl) ?_
        refine TU.valS (by decide) rfl (yes_none rfl) (by exact ValS.load rfl rfl 10 (by decide) rfl rfl (by simp [St.cellAt, St.root, rowAt, setRow, setAt, D.row, D.reRow, listOf, List.getElem?_set_self', List.set_set, hg]; first | rfl | exact ⟨rfl, rfl⟩) rfl) (by simp only [nput, valC]; rfl) ?_
        refine TU.valS (by decide) rfl (yes_none rfl) (ValS.pure (Val.move 1 rfl rfl) rfl) (by simp only [nput]; rfl) ?_
        refine TU.valS (by decide) rfl (yes_none rfl) (by exact (by first | exact ValS.toI (ValS.sub rfl rfl rfl (by (try simp); omega) (by (try simp); omega)) hj2 | exact ValS.toI (ValS.sub rfl rfl rfl (by (try simp); omega) (by (try simp); omega)) hj1)) (by simp only [nput]; rfl) ?_
        refine TU.valE (by decide) rfl (yes_none rfl) (Val.move 1 rfl rfl) (by simp only [nput]; rfl) ?_
        refine TU.valE (by decide) rfl (yes_none rfl) (Val.nilPtr rfl rfl) (by simp only [nput]; rfl) ?_
        refine TU.valE (by decide) rfl (yes_none rfl) (by exact Val.load rfl rfl rfl (by simp [St.cellAt, St.root, rowAt, setRow, setAt, D.row, D.reRow, listOf, List.getElem?_set_self', List.set_set, hg]; first | rfl | exact ⟨rfl, rfl⟩) rfl) (by simp only [nput, valC]; rfl) ?_
        refine TU.valE (by decide) rfl (yes_none rfl) (Val.move 1 rfl rfl) (by simp only [nput]; rfl) ?_
        refine TU.valE (by decide) rfl (yes_none rfl) (by exact (by first | exact Val.toI (Val.sub rfl rfl rfl (by (try simp); omega) (by (try simp); omega)) hj2 | exact Val.toI (Val.sub rfl rfl rfl (by (try simp); omega) (by (try simp); omega)) hj1)) (by simp only [nput]; rfl) ?_
        refine TU.valE (by decide) rfl (yes_none rfl) (by exact Val.index rfl rfl rfl rfl rfl (by simp [St.cellAt, St.root, rowAt, setRow, setAt, D.row, D.reRow, listOf, List.getElem?_set_self', List.set_set, hg]; first | rfl | exact ⟨rfl, rfl⟩) (by omega) (by simp; omega)) (by simp only [nput]; rfl) ?_
        refine TU.valE (by decide) rfl (yes_none rfl) (by exact Val.load rfl rfl rfl (by simp [St.cellAt, St.root, rowAt, setRow, setAt, D.row, D.reRow, listOf, List.getElem?_set_self', List.set_set, hg, hj]; first | rfl | exact ⟨rfl, rfl⟩) rfl) (by simp only [nput, valC]; rfl) ?_
        refine TU.valE (by decide) rfl (yes_none rfl) (by first | exact Val.loadCAgg (n := 2) rfl rfl rfl rfl (Nat.le_of_ble_eq_true rfl) | exact Val.loadAgg (n := 2) rfl rfl rfl rfl (by simp [St.cellsAt, St.cellAt, St.root, valC]; rfl) rfl | exact Val.loadAgg (n := 2) rfl rfl rfl rfl rfl rfl) (by simp only [St.put, List.set_cons_succ, List.set_cons_zero, valC, dIns, rIns, D.row, List.take_succ_cons, List.take_zero, List.map_cons, List.map_nil]; rfl) ?_
        refine TU.takeN 1000001 [(0, m), (0, j)] 0 3000 (by simp [St.takeN, St.cellAt, rowAt, setRow, setAt, D.row, D.reRow, reT, reC, St.take, St.root, St.fresh, St.kill, St.setRoot, TS.kill, TV.kill, C.kill, Rt.kill, hitR, hitP, shapeOf, List.isPrefixOf, List.getElem?_set_self', List.set_set, hg, hj]; rfl) ?_
        refine TU.opM (by decide) rfl (yes_none rfl) fun K hK => ?_
        refine OpM.of (build_value rfl) (fun w0 g0 => ⟨_, OpT.buildP rfl rfl (xs := [(Go.Operand.tmp 121)]) rfl rfl rfl rfl (sz := 2) rfl rfl rfl (by decide) (by decide) rfl⟩) ?_
        refine OpT.buildP rfl rfl (xs := [(Go.Operand.tmp 121)]) rfl rfl rfl rfl (sz := 2) rfl rfl rfl (by decide) (by decide) ?_
        simp only [nrm, Nat.reduceBEq, Nat.reduceBNe, reduceIte]
        refine hK _ ?_
        clear hK K
        refine TU.opB [3000, 122] (by decide) rfl (yes_none rfl) rfl (.cons rfl (by simp [St.cellAt, St.root, rowAt, setRow, setAt, D.row, D.reRow, listOf, List.getElem?_set_self', List.set_set, hg, hj]; first | rfl | exact ⟨rfl, rfl⟩) rfl rfl .nil) (fun w0 g0 => ⟨_, OpT.appendE rfl rfl rfl (sz := 2) rfl rfl rfl (by simp [isPlain, D.row, elD, cellD]) rfl rfl rfl rfl rfl rfl rfl (by simp; omega) rfl⟩) fun K hK => ?_
        refine OpT.appendE rfl rfl rfl (sz := 2) rfl rfl rfl (by simp [isPlain, D.row, elD, cellD]) rfl rfl rfl rfl rfl rfl rfl (by simp; omega) ?_
        simp only [nrm, Nat.reduceBEq, Nat.reduceBNe, reduceIte]
        refine hK _ ?_
        clear hK K
        refine TU.valE (by decide) rfl (yes_none rfl) (by exact Val.index rfl rfl rfl rfl rfl (by simp [St.cellAt, St.root, rowAt, setRow, setAt, D.row, D.reRow, listOf, List.getElem?_set_self', List.set_set, hg, hj]; first | rfl | exact ⟨rfl, rfl⟩) (by omega) (by simp; omega)) (by simp only [nput]; rfl) ?_
        refine TU.opK (by decide) rfl (yes_none rfl) fun K hK => ?_
        refine OpT.store (z := 1) rfl rfl rfl rfl (by simp [St.cellAt, St.root, rowAt, setRow, setAt, D.row, D.reRow, listOf, List.getElem?_set_self', List.set_set, hg, hj]; first | rfl | exact ⟨rfl, rfl⟩) rfl (by simp [St.store1, St.storeAll, St.cellAt, St.isMem, St.root, St.wrote, St.kill, St.setRoot, TS.kill, TV.kill, C.kill, Rt.kill, hitR, hitP, shapeOf, setRow, setAt, rowAt, D.row, D.reRow, List.isPrefixOf, List.getElem?_set_self', List.set_set, hg, hj]; rfl) ?_
        simp only [nrm, Nat.reduceBEq, Nat.reduceBNe, reduceIte]
        refine hK _ ?_
        clear hK K
        refine TU.nil ?_
        show TC _ _ _ _ _ _
        refine TC.seq ?_
        refine TC.region ?_
        refine TL.vE (Val.move 1 rfl rfl) ?_
        refine TL.vE (Val.nilPtr rfl rfl) ?_
        refine TL.valE rfl (by exact Val.load rfl rfl rfl (by simp [St.cellAt, St.root, rowAt, setRow, setAt, D.row, D.reRow, listOf, List.getElem?_set_self', List.set_set, hg, hj]; first | rfl | exact ⟨rfl, rfl⟩) rfl) (by simp only [nput, valC]; rfl) ?_
        refine TL.vE (Val.move 1 rfl rfl) ?_
        refine TL.vE (by exact (by first | exact Val.toI (Val.sub rfl rfl rfl (by (try simp); omega) (by (try simp); omega)) hj2 | exact Val.toI (Val.sub rfl rfl rfl (by (try simp); omega) (by (try simp); omega)) hj1)) ?_
        refine TL.vE (by exact Val.index rfl rfl rfl rfl rfl (by simp [St.cellAt, St.root, rowAt, setRow, setAt, D.row, D.reRow, listOf, List.getElem?_set_self', List.set_set, hg, hj]; first | rfl | exact ⟨rfl, rfl⟩) (by omega) (by simp; omega)) ?_
        refine TL.valE rfl (by exact Val.load rfl rfl rfl (by simp [St.cellAt, St.root, rowAt, setRow, setAt, D.row, D.reRow, listOf, List.getElem?_set_self', List.set_set, hg, hj]; first | rfl | exact ⟨rfl, rfl⟩) rfl) (by simp only [nput, valC]; rfl) ?_
        refine TL.vE (by exact Val.len rfl rfl (by simp [St.cellAt, St.root, rowAt, setRow, setAt, D.row, D.reRow, listOf, List.getElem?_set_self', List.set_set, hg, hj]; first | rfl | exact ⟨rfl, rfl⟩) rfl) ?_
        refine TL.vE (Val.leq rfl rfl rfl) ?_
        refine TL.vE (Val.assign 1 rfl rfl) ?_
        refine TL.nil ?_
        show TC _ _ _ _ _ _
        refine TC.ret ?_
        exact ⟨.inr rfl, [_], [_], _, [.sl 1 ((s.All.map dInsSS).set m (.sl 1 ((g.map dInsS).set j (.sl 2 (p.map dIns ++ [dIns i]))))), .sl 6 (s.Acts.map dAct)], rfl, by decide, rfl, by simp [refV, refC, valC, C.kill, hitR], rfl, rfl, by simp, rfl, ⟨(by rw [accept_ins hqa hac hw hm hg hv hqi hjl hj] <;> first | rfl | (simp; done) | (simp only [rScript, dInsSS, dInsS, List.map_set, List.map_append, List.map_cons, List.map_nil]; done) | (simp only [rScript, dInsSS, dInsS, List.map_set, List.map_append, List.map_cons, List.map_nil]; rfl)), resV (by rw [accept_ins hqa hac hw hm hg hv hqi hjl hj] <;> first | rfl | (simp; done) | (simp; omega))⟩⟩
  · iterate 4 (refine TL.skip (nope_b rfl rfl hg3) (by simp only [nput]; rfl) ?_)
    refine TL.vE (Val.pickF rfl rfl hg3 rfl) ?_
    refine TL.nil ?_
    show TC _ _ _ _ _ _
    refine TC.cond rfl (fun hb => absurd hb (by simp)) (fun hb => ?_)
    refine TC.skip ?_
    show TC _ _ _ _ _ _
    refine TC.seq ?_
    refine TC.seq ?_
    have hw : ws ≠ [wMon] := by intro e; first | (rw [e] at hg3; simp at hg3; done) | (have h1 := hx0 (by rw [e]; rfl); rw [e] at h1; rw [ba_beq] at hb; simp only [List.cons.injEq, and_true] at h1; rw [← h1] at hb; simp at hb)
    refine TC.region ?_
    refine TL.vE (Val.move 1 rfl rfl) ?_
    refine TL.vE (Val.eql rfl rfl rfl) ?_
    refine TL.nil ?_
    show TC _ _ _ _ _ _
    refine TC.cond rfl (fun hb => ?_) (fun hb => ?_)
    · have hk68 := hb
      refine TC.seq ?_
      have hA : s.All = [] := by cases h : s.All with | nil => rfl | cons x l => (first | (rw [h] at hb; simp at hb; done) | (rw [h] at hb; simp at hb; omega))
      refine TC.region ?_
      refine TL.vE (Val.assign 1 rfl rfl) ?_
      refine TL.nil ?_
      show TC _ _ _ _ _ _
      refine TC.ret ?_
      exact ⟨.inr rfl, [_], [_], _, rScript s, rfl, by decide, rfl, by simp [refV, refC, valC, C.kill, hitR], rfl, rfl, by simp, rfl, ⟨(by rw [accept_none hqa hac hw hA] <;> first | rfl | (simp; done) | (simp only [rScript, dInsSS, dInsS, List.map_set, List.map_append, List.map_cons, List.map_nil]; done) | (simp only [rScript, dInsSS, dInsS, List.map_set, List.map_append, List.map_cons, List.map_nil]; rfl)), resV (by rw [accept_none hqa hac hw hA] <;> first | rfl | (simp; done) | (simp; omega))⟩⟩
    have hk68 := hb
    refine TC.skip ?_
    show TC _ _ _ _ _ _
    refine TC.seq ?_
    obtain ⟨m, hm⟩ : ∃ m, s.All.length = m + 1 := by cases h : s.All with | nil => (rw [h] at hb; simp at hb) | cons x l => exact ⟨l.length, rfl⟩
    obtain ⟨g, hg⟩ := at_of (xs := s.All) (k := m) (by omega)
    have hm1 : (((s.All.map dInsSS).length : Nat) : Int) - 1 = (m : Int) := by simp; omega
    have hgl := hs3 g (List.mem_of_getElem? hg)
    have hgm : s.All[s.All.length - 1]? = some g := by rw [hm]; exact hg
    refine TC.region ?_
    refine TL.vE (Val.move 1 rfl rfl) ?_
    refine TL.vE (Val.nilPtr rfl rfl) ?_
    refine TL.fld ?_
    refine TL.ld ?_
    refine TL.vE (Val.move 1 rfl rfl) ?_
    refine TL.vE (by exact Val.toI (Val.sub rfl rfl rfl (by simp; omega) (by simp; omega)) hm1) ?_
    refine TL.vE (by exact Val.index rfl rfl rfl rfl rfl rfl (by omega) (by simp; omega)) ?_
    refine TL.vE (Val.assign 1 rfl rfl) ?_
    refine TL.nil ?_
    show TC _ _ _ _ _ _
    refine TC.seq ?_
    refine TC.region ?_
    refine TL.vE (Val.move 1 rfl rfl) ?_
    refine TL.vE (Val.nilPtr rfl rfl) ?_
    refine TL.valE rfl (by exact Val.load rfl rfl rfl (by simp [St.cellAt, St.root, rowAt, setRow, setAt, D.row, D.reRow, listOf, List.getElem?_set_self', List.set_set, hg]; first | rfl | exact ⟨rfl, rfl⟩) rfl) (by simp only [nput, valC]; rfl) ?_
    refine TL.vE (by exact Val.len rfl rfl (by simp [St.cellAt, St.root, rowAt, setRow, setAt, D.row, D.reRow, listOf, List.getElem?_set_self', List.set_set, hg]; first | rfl | exact ⟨rfl, rfl⟩) rfl) ?_
    refine TL.vE (Val.assign 1 rfl rfl) ?_
    refine TL.nil ?_
    show TC _ _ _ _ _ _
    refine TC.seq ?_
    refine TC.seq ?_
    refine TC.region ?_
    refine TL.vE (Val.move 1 rfl rfl) ?_
    refine TL.vE (by first | exact Val.len rfl rfl rfl rfl | exact Val.lenS rfl rfl rfl) ?_
    refine TL.vE (Val.eql rfl rfl rfl) ?_
    refine TL.vE (Val.move 1 rfl rfl) ?_
    refine TL.splitG 3 rfl (fun hg3 => ?_) (fun hg3 => ?_)
    · refine TL.gE rfl hg3 (Val.move 1 rfl rfl) ?_
      refine TL.gE rfl hg3 (by exact Val.indexC (d := .v (.string x0)) rfl rfl rfl rfl rfl (by omega) (by simp [hx0 (by simp at hg3; omega)])) ?_
      refine TL.guardE rfl rfl hg3 (by first | exact Val.load rfl rfl rfl rfl rfl | exact Val.loadC rfl rfl rfl) (by simp only [nput, valC]; rfl) ?_
      refine TL.gE rfl hg3 (Val.eqlS rfl rfl rfl) ?_
      refine TL.vE (Val.pickT rfl rfl hg3 rfl) ?_
      refine TL.nil ?_
      show TC _ _ _ _ _ _
      refine TC.cond rfl (fun hb => ?_) (fun hb => ?_)
      · have hk88 := hb
        refine TC.seq ?_
        have hv : ws = [wGst] := by rw [hx0 (by simp at hg3; omega)]; rw [ba_beq] at hb; simpa using hb
        refine TC.region ?_
        refine TL.vE (Val.move 1 rfl rfl) ?_
        refine TL.vE (Val.move 1 rfl rfl) ?_
        refine TL.vE (Val.nilPtr rfl rfl) ?_
        refine TL.valE rfl (by exact Val.load rfl rfl rfl (by simp [St.cellAt, St.root, rowAt, setRow, setAt, D.row, D.reRow, listOf, List.getElem?_set_self', List.set_set, hg]; first | rfl | exact ⟨rfl, rfl⟩) rfl) (by simp only [nput, valC]; rfl) ?_
        refine TL.takeN 1000001 [(0, m)] 0 3000 (by simp [St.takeN, St.cellAt, rowAt, setRow, setAt, D.row, D.reRow, reT, reC, St.take, St.root, St.fresh, St.kill, St.setRoot, TS.kill, TV.kill, C.kill, Rt.kill, hitR, hitP, shapeOf, List.isPrefixOf, List.getElem?_set_self', List.set_set, hg]; rfl) ?_
        refine TL.opK rfl fun K hK => ?_
        refine OpT.buildNil rfl rfl rfl rfl rfl 2 ?_
        simp only [nrm, Nat.reduceBEq, Nat.reduceBNe, reduceIte]
        refine hK _ ?_
        clear hK K
        refine TL.opK rfl fun K hK => ?_
        refine OpT.appendOE rfl rfl rfl rfl rfl rfl (by decide) (by simp [D.row]) rfl rfl rfl rfl rfl rfl rfl (by simp; omega) ?_
        simp only [nrm, Nat.reduceBEq, Nat.reduceBNe, reduceIte]
        refine hK _ ?_
        clear hK K
        refine TL.vE (Val.nilPtr rfl rfl) ?_
        refine TL.opK rfl fun K hK => ?_
        refine OpT.store (z := 1) rfl rfl rfl rfl (by simp [St.cellAt, St.root, rowAt, setRow, setAt, D.row, D.reRow, listOf, List.getElem?_set_self', List.set_set, hg]; first | rfl | exact ⟨rfl, rfl⟩) rfl (by simp [St.store1, St.storeAll, St.cellAt, St.isMem, St.root, St.wrote, St.kill, St.setRoot, TS.kill, TV.kill, C.kill, Rt.kill, hitR, hitP, shapeOf, setRow, setAt, rowAt, D.row, D.reRow, List.isPrefixOf, List.getElem?_set_self', List.set_set, hg]; rfl) ?_
        simp only [nrm, Nat.reduceBEq, Nat.reduceBNe, reduceIte]
        refine hK _ ?_
        clear hK K
        refine TL.nil ?_
        show TC _ _ _ _ _ _
        refine TC.seq ?_
        refine TC.region ?_
        refine TL.vE (Val.move 1 rfl rfl) ?_
        refine TL.vE (Val.lss rfl rfl rfl) ?_
        refine TL.vE (Val.assign 1 rfl rfl) ?_
        refine TL.nil ?_
        show TC _ _ _ _ _ _
        refine TC.ret ?_
        exact ⟨.inr rfl, [_], [_], _, [.sl 1 ((s.All.map dInsSS).set m (.sl 1 (g.map dInsS ++ [.sl 2 []]))), .sl 6 (s.Acts.map dAct)], rfl, by decide, rfl, by simp [refV, refC, valC, C.kill, hitR], rfl, rfl, by simp, rfl, ⟨(by rw [accept_gst hqa hac hw hm hg hv] <;> first | rfl | (simp; done) | (simp only [rScript, dInsSS, dInsS, List.map_set, List.map_append, List.map_cons, List.map_nil]; done) | (simp only [rScript, dInsSS, dInsS, List.map_set, List.map_append, List.map_cons, List.map_nil]; rfl)), resV (by rw [accept_gst hqa hac hw hm hg hv] <;> first | rfl | (simp; done) | (simp; omega))⟩⟩
      have hk88 := hb
      refine TC.skip ?_
      show TC _ _ _ _ _ _
      refine TC.seq ?_
      have hv : ws ≠ [wGst] := by intro e; first | (rw [e] at hg3; simp at hg3; done) | (have h1 := hx0 (by rw [e]; rfl); rw [e] at h1; rw [ba_beq] at hb; simp only [List.cons.injEq, and_true] at h1; rw [← h1] at hb; simp at hb)
      refine TC.region ?_
      refine TL.vE (Val.move 1 rfl rfl) ?_
      refine TL.opK rfl fun K hK => ?_
      refine OpT.callG rfl rfl rfl rfl rfl rfl ((impl_ReadIns_q hqi).k) (by repeat first | exact .nil | refine Snaps.cons (.ro _) ?_ | refine Snaps.cons (.aggRo rfl) ?_ | refine Snaps.cons (.cptr _) ?_ | refine Snaps.cons (.fn _) ?_ | refine Snaps.cons (.ownRef rfl (by first | assumption | exact whole_map _ _ (fun w c hc => by simp only [D.row, List.mem_cons, List.not_mem_nil, or_false] at hc; subst hc; exact .v _))) ?_ | refine Snaps.cons (.aggR (by repeat first | exact .nil | refine SnapCs.cons (.ro _) ?_ | refine SnapCs.cons (.ref rfl (by first | assumption | exact whole_map _ _ (fun w c hc => by simp only [D.row, List.mem_cons, List.not_mem_nil, or_false] at hc; subst hc; exact .v _))) ?_)) ?_) rfl ?_
      simp only [nrm, Nat.reduceBEq, Nat.reduceBNe, reduceIte]
      refine hK _ ?_
      clear hK K
      refine TL.vE (Val.move 1 rfl rfl) ?_
      refine TL.vE (Val.extract rfl rfl rfl) ?_
      refine TL.vE (Val.extract rfl rfl rfl) ?_
      refine TL.opK rfl fun K hK => ?_
      refine OpT.alloc rfl rfl rfl rfl rfl rfl ?_
      simp only [nrm, Nat.reduceBEq, Nat.reduceBNe, reduceIte]
      refine hK _ ?_
      clear hK K
      refine TL.opK rfl fun K hK => ?_
      refine OpT.storeAgg rfl rfl rfl rfl rfl rfl (by simp [St.store1, St.storeAll, St.cellAt, St.isMem, St.root, St.wrote, St.kill, St.setRoot, TS.kill, TV.kill, C.kill, Rt.kill, hitR, hitP, shapeOf, setRow, setAt, rowAt, D.row, D.reRow, List.isPrefixOf]; rfl) ?_ -- None
      simp only [nrm, Nat.reduceBEq, Nat.reduceBNe, reduceIte]
      refine hK _ ?_
      clear hK K
      refine TL.vE (Val.assign 1 rfl rfl) ?_
      refine TL.nil ?_
      show TC _ _ _ _ _ _
      refine TC.seq ?_
      refine TC.seq ?_
      refine TC.region ?_
      refine TL.vE (Val.move 1 rfl rfl) ?_
      refine TL.vE (Val.not rfl rfl) ?_
      refine TL.vE (Val.move 1 rfl rfl) ?_
      refine TL.splitG 2 rfl (fun hg2 => ?_) (fun hg2 => ?_)
      · iterate 2 (refine TL.skip (nope_b rfl rfl hg2) (by simp only [nput]; rfl) ?_)
        refine TL.vE (Val.pickT rfl rfl hg2 rfl) ?_
        refine TL.nil ?_
        show TC _ _ _ _ _ _
        refine TC.cond rfl (fun hb => ?_) (fun hb => absurd hb (by simp))
        refine TC.seq ?_
        have hno : qi = none ∨ g = [] := by first | (left; cases qi <;> simp at hg2 <;> rfl) | (right; cases h : g with | nil => rfl | cons x l => (first | (rw [h] at hb; simp at hb; done) | (rw [h] at hb; simp at hb; omega)))
        refine TC.region ?_
        refine TL.vE (Val.assign 1 rfl rfl) ?_
        refine TL.nil ?_
        show TC _ _ _ _ _ _
        refine TC.ret ?_
        exact ⟨.inr rfl, [_], [_], _, rScript s, rfl, by decide, rfl, by simp [refV, refC, valC, C.kill, hitR], rfl, rfl, by simp, rfl, ⟨(by rw [accept_bad hqa hac hw hm hg hv (hno.imp (fun e => by rw [hqi, e]) id)] <;> first | rfl | (simp; done) | (simp only [rScript, dInsSS, dInsS, List.map_set, List.map_append, List.map_cons, List.map_nil]; done) | (simp only [rScript, dInsSS, dInsS, List.map_set, List.map_append, List.map_cons, List.map_nil]; rfl)), resV (by rw [accept_bad hqa hac hw hm hg hv (hno.imp (fun e => by rw [hqi, e]) id)] <;> first | rfl | (simp; done) | (simp; omega))⟩⟩
      · refine TL.gE rfl hg2 (Val.move 1 rfl rfl) ?_
        refine TL.gE rfl hg2 (Val.eql rfl rfl rfl) ?_
        refine TL.vE (Val.pickF rfl rfl hg2 rfl) ?_
        refine TL.nil ?_
        show TC _ _ _ _ _ _
        refine TC.cond rfl (fun hb => ?_) (fun hb => ?_)
        · have hk108 := hb
          refine TC.seq ?_
          have hno : qi = none ∨ g = [] := by first | (left; cases qi <;> simp at hg2 <;> rfl) | (right; cases h : g with | nil => rfl | cons x l => (first | (rw [h] at hb; simp at hb; done) | (rw [h] at hb; simp at hb; omega)))
          refine TC.region ?_
          refine TL.vE (Val.assign 1 rfl rfl) ?_
          refine TL.nil ?_
          show TC _ _ _ _ _ _
          refine TC.ret ?_
          exact ⟨.inr rfl, [_], [_], _, rScript s, rfl, by decide, rfl, by simp [refV, refC, valC, C.kill, hitR], rfl, rfl, by simp, rfl, ⟨(by rw [accept_bad hqa hac hw hm hg hv (hno.imp (fun e => by rw [hqi, e]) id)] <;> first | rfl | (simp; done) | (simp only [rScript, dInsSS, dInsS, List.map_set, List.map_append, List.map_cons, List.map_nil]; done) | (simp only [rScript, dInsSS, dInsS, List.map_set, List.map_append, List.map_cons, List.map_nil]; rfl)), resV (by rw [accept_bad hqa hac hw hm hg hv (hno.imp (fun e => by rw [hqi, e]) id)] <;> first | rfl | (simp; done) | (simp; omega))⟩⟩
        have hk108 := hb
        refine TC.skip ?_
        show TC _ _ _ _ _ _
        refine TC.seq ?_
        obtain ⟨i, rfl⟩ : ∃ i, qi = some i := by cases qi <;> simp at hg2 <;> exact ⟨_, rfl⟩
        obtain ⟨j, hjl⟩ : ∃ j, g.length = j + 1 := by cases h : g with | nil => (rw [h] at hb; simp at hb) | cons x l => exact ⟨l.length, rfl⟩
        obtain ⟨p, hj⟩ := at_of (xs := g) (k := j) (by omega)
        have hj1 : (((g.map dInsS).length : Nat) : Int) - 1 = (j : Int) := by simp; omega
        have hj2 : ((g.length : Nat) : Int) - 1 = (j : Int) := by omega
        have hpl := hgl.2 p (List.mem_of_getElem? hj)
        have hgj : g[g.length - 1]? = some p := by rw [hjl]; exact hj
        refine TC.regionV [14, 16] [14] [10] [(0, 2), (1, 2), (2, 2), (3, 2), (4, 2), (5, 0), (6, 0), (7, 0), (8, 0), (9, 0), (10, 0), (11, 0), (12, 0), (13, 1), (14, 1), (15, 0), (16, 1)] rfl (by decide +kernel) ?_
        refine TU.valS (by decide) rfl (yes_none rfl) (ValS.pure (Val.move 1 rfl rfl) rfl) (by simp only [nput]; rfl) ?_
        refine TU.valS (by decide) rfl (yes_none rfl) (ValS.nilPtr rfl rfl) (by simp only [nput]; rfl) ?_
        refine TU.valS (by decide) rfl (yes_none rfl) (by exact ValS.load rfl rfl 10 (by decide) rfl rfl (by simp [St.cellAt, St.root, rowAt, setRow, setAt, D.row, D.reRow, listOf, List.getElem?_set_self', List.set_set, hg]; first | rfl | exact ⟨rfl, rfl⟩) rfl) (by simp only [nput, valC]; rfl) ?_
        refine TU.valS (by decide) rfl (yes_none rfl) (ValS.pure (Val.move 1 rfl rfl) rfl) (by simp only [nput]; rfl) ?_
        refine TU.valS (by decide) rfl (yes_none rfl) (by exact (by first | exact ValS.toI (ValS.sub rfl rfl rfl (by (try simp); omega) (by (try simp); omega)) hj2 | exact ValS.toI (ValS.sub rfl rfl rfl (by (try simp); omega) (by (try simp); omega)) hj1)) (by simp only [nput]; rfl) ?_
        refine TU.valE (by decide) rfl (yes_none rfl) (Val.move 1 rfl rfl) (by simp only [nput]; rfl) ?_
        refine TU.valE (by decide) rfl (yes_none rfl) (Val.nilPtr rfl rfl) (by simp only [nput]; rfl) ?_
        refine TU.valE (by decide) rfl (yes_none rfl) (by exact Val.load rfl rfl rfl (by simp [St.cellAt, St.root, rowAt, setRow, setAt, D.row, D.reRow, listOf, List.getElem?_set_self', List.set_set, hg]; first | rfl | exact ⟨rfl, rfl⟩) rfl) (by simp only [nput, valC]; rfl) ?_
        refine TU.valE (by decide) rfl (yes_none rfl) (Val.move 1 rfl rfl) (by simp only [nput]; rfl) ?_
        refine TU.valE (by decide) rfl (yes_none rfl) (by exact (by first | exact Val.toI (Val.sub rfl rfl rfl (by (try simp); omega) (by (try simp); omega)) hj2 | exact Val.toI (Val.sub rfl rfl rfl (by (try simp); omega) (by (try simp); omega)) hj1)) (by simp only [nput]; rfl) ?_
        refine TU.valE (by decide) rfl (yes_none rfl) (by exact Val.index rfl rfl rfl rfl rfl (by simp [St.cellAt, St.root, rowAt, setRow, setAt, D.row, D.reRow, listOf, List.getElem?_set_self', List.set_set, hg]; first | rfl | exact ⟨rfl, rfl⟩) (by omega) (by simp; omega)) (by simp only [nput]; rfl) ?_
        refine TU.valE (by decide) rfl (yes_none rfl) (by exact Val.load rfl rfl rfl (by simp [St.cellAt, St.root, rowAt, setRow, setAt, D.row, D.reRow, listOf, List.getElem?_set_self', List.set_set, hg, hj]; first | rfl | exact ⟨rfl, rfl⟩) rfl) (by simp only [nput, valC]; rfl) ?_
        refine TU.valE (by decide) rfl (yes_none rfl) (by first | exact Val.loadCAgg (n := 2) rfl rfl rfl rfl (Nat.le_of_ble_eq_true rfl) | exact Val.loadAgg (n := 2) rfl rfl rfl rfl (by simp [St.cellsAt, St.cellAt, St.root, valC]; rfl) rfl | exact Val.loadAgg (n := 2) rfl rfl rfl rfl rfl rfl) (by simp only [St.put, List.set_cons_succ, List.set_cons_zero, valC, dIns, rIns, D.row, List.take_succ_cons, List.take_zero, List.map_cons, List.map_nil]; rfl) ?_
        refine TU.takeN 1000001 [(0, m), (0, j)] 0 3000 (by simp [St.takeN, St.cellAt, rowAt, setRow, setAt, D.row, D.reRow, reT, reC, St.take, St.root, St.fresh, St.kill, St.setRoot, TS.kill, TV.kill, C.kill, Rt.kill, hitR, hitP, shapeOf, List.isPrefixOf, List.getElem?_set_self', List.set_set, hg, hj]; rfl) ?_
        refine TU.opM (by decide) rfl (yes_none rfl) fun K hK => ?_
        refine OpM.of (build_value rfl) (fun w0 g0 => ⟨_, OpT.buildP rfl rfl (xs := [(Go.Operand.tmp 121)]) rfl rfl rfl rfl (sz := 2) rfl rfl rfl (by decide) (by decide) rfl⟩) ?_
        refine OpT.buildP rfl rfl (xs := [(Go.Operand.tmp 121)]) rfl rfl rfl rfl (sz := 2) rfl rfl rfl (by decide) (by decide) ?_
        simp only [nrm, Nat.reduceBEq, Nat.reduceBNe, reduceIte]
        refine hK _ ?_
        clear hK K
        refine TU.opB [3000, 122] (by decide) rfl (yes_none rfl) rfl (.cons rfl (by simp [St.cellAt, St.root, rowAt, setRow, setAt, D.row, D.reRow, listOf, List.getElem?_set_self', List.set_set, hg, hj]; first | rfl | exact ⟨rfl, rfl⟩) rfl rfl .nil) (fun w0 g0 => ⟨_, OpT.appendE rfl rfl rfl (sz := 2) rfl rfl rfl (by simp [isPlain, D.row, elD, cellD]) rfl rfl rfl rfl rfl rfl rfl (by simp; omega) rfl⟩) fun K hK => ?_
        refine OpT.appendE rfl rfl rfl (sz := 2) rfl rfl rfl (by simp [isPlain, D.row, elD, cellD]) rfl rfl rfl rfl rfl rfl rfl (by simp; omega) ?_
        simp only [nrm, Nat.reduceBEq, Nat.reduceBNe, reduceIte]
        refine hK _ ?_
        clear hK K
        refine TU.valE (by decide) rfl (yes_none rfl) (by exact Val.index rfl rfl rfl rfl rfl (by simp [St.cellAt, St.root, rowAt, setRow, setAt, D.row, D.reRow, listOf, List.getElem?_set_self', List.set_set, hg, hj]; first | rfl | exact ⟨rfl, rfl⟩) (by omega) (by simp; omega)) (by simp only [nput]; rfl) ?_
        refine TU.opK (by decide) rfl (yes_none rfl) fun K hK => ?_
        refine OpT.store (z := 1) rfl rfl rfl rfl (by simp [St.cellAt, St.root, rowAt, setRow, setAt, D.row, D.reRow, listOf, List.getElem?_set_self', List.set_set, hg, hj]; first | rfl | exact ⟨rfl, rfl⟩) rfl (by simp [St.store1, St.storeAll, St.cellAt, St.isMem, St.root, St.wrote, St.kill, St.setRoot, TS.kill, TV.kill, C.kill, Rt.kill, hitR, hitP, shapeOf, setRow, setAt, rowAt, D.row, D.reRow, List.isPrefixOf, List.getElem?_set_self', List.set_set, hg, hj]; rfl) ?_
        simp only [nrm, Nat.reduceBEq, Nat.reduceBNe, reduceIte]
        refine hK _ ?_
        clear hK K
        refine TU.nil ?_
        show TC _ _ _ _ _ _
        refine TC.seq ?_
        refine TC.region ?_
        refine TL.vE (Val.move 1 rfl rfl) ?_
        refine TL.vE (Val.nilPtr rfl rfl) ?_
        refine TL.valE rfl (by exact Val.load rfl rfl rfl (by simp [St.cellAt, St.root, rowAt, setRow, setAt, D.row, D.reRow, listOf, List.getElem?_set_self', List.set_set, hg, hj]; first | rfl | exact ⟨rfl, rfl⟩) rfl) (by simp only [nput, valC]; rfl) ?_
        refine TL.vE (Val.move 1 rfl rfl) ?_
        refine TL.vE (by exact (by first | exact Val.toI (Val.sub rfl rfl rfl (by (try simp); omega) (by (try simp); omega)) hj2 | exact Val.toI (Val.sub rfl rfl rfl (by (try simp); omega) (by (try simp); omega)) hj1)) ?_
        refine TL.vE (by exact Val.index rfl rfl rfl rfl rfl (by simp [St.cellAt, St.root, rowAt, setRow, setAt, D.row, D.reRow, listOf, List.getElem?_set_self', List.set_set, hg, hj]; first | rfl | exact ⟨rfl, rfl⟩) (by omega) (by simp; omega)) ?_
        refine TL.valE rfl (by exact Val.load rfl rfl rfl (by simp [St.cellAt, St.root, rowAt, setRow, setAt, D.row, D.reRow, listOf, List.getElem?_set_self', List.set_set, hg, hj]; first | rfl | exact ⟨rfl, rfl⟩) rfl) (by simp only [nput, valC]; rfl) ?_
        refine TL.vE (by exact Val.len rfl rfl (by simp [St.cellAt, St.root, rowAt, setRow, setAt, D.row, D.reRow, listOf, List.getElem?_set_self', List.set_set, hg, hj]; first | rfl | exact ⟨rfl, rfl⟩) rfl) ?_
        refine TL.vE (Val.leq rfl rfl rfl) ?_
        refine TL.vE (Val.assign 1 rfl rfl) ?_
        refine TL.nil ?_
        show TC _ _ _ _ _ _
        refine TC.ret ?_
        exact ⟨.inr rfl, [_], [_], _, [.sl 1 ((s.All.map dInsSS).set m (.sl 1 ((g.map dInsS).set j (.sl 2 (p.map dIns ++ [dIns i]))))), .sl 6 (s.Acts.map dAct)], rfl, by decide, rfl, by simp [refV, refC, valC, C.kill, hitR], rfl, rfl, by simp, rfl, ⟨(by rw [accept_ins hqa hac hw hm hg hv hqi hjl hj] <;> first | rfl | (simp; done) | (simp only [rScript, dInsSS, dInsS, List.map_set, List.map_append, List.map_cons, List.map_nil]; done) | (simp only [rScript, dInsSS, dInsS, List.map_set, List.map_append, List.map_cons, List.map_nil]; rfl)), resV (by rw [accept_ins hqa hac hw hm hg hv hqi hjl hj] <;> first | rfl | (simp; done) | (simp; omega))⟩⟩
    · iterate 4 (refine TL.skip (nope_b rfl rfl hg3) (by simp only [nput]; rfl) ?_)
      refine TL.vE (Val.pickF rfl rfl hg3 rfl) ?_
      refine TL.nil ?_
      show TC _ _ _ _ _ _
      refine TC.cond rfl (fun hb => absurd hb (by simp)) (fun hb => ?_)
      refine TC.skip ?_
      show TC _ _ _ _ _ _
      refine TC.seq ?_
      have hv : ws ≠ [wGst] := by intro e; first | (rw [e] at hg3; simp at hg3; done) | (have h1 := hx0 (by rw [e]; rfl); rw [e] at h1; rw [ba_beq] at hb; simp only [List.cons.injEq, and_true] at h1; rw [← h1] at hb; simp at hb)
      refine TC.region ?_
      refine TL.vE (Val.move 1 rfl rfl) ?_
      refine TL.opK rfl fun K hK => ?_
      refine OpT.callG rfl rfl rfl rfl rfl rfl ((impl_ReadIns_q hqi).k) (by repeat first | exact .nil | refine Snaps.cons (.ro _) ?_ | refine Snaps.cons (.aggRo rfl) ?_ | refine Snaps.cons (.cptr _) ?_ | refine Snaps.cons (.fn _) ?_ | refine Snaps.cons (.ownRef rfl (by first | assumption | exact whole_map _ _ (fun w c hc => by simp only [D.row, List.mem_cons, List.not_mem_nil, or_false] at hc; subst hc; exact .v _))) ?_ | refine Snaps.cons (.aggR (by repeat first | exact .nil | refine SnapCs.cons (.ro _) ?_ | refine SnapCs.cons (.ref rfl (by first | assumption | exact whole_map _ _ (fun w c hc => by simp only [D.row, List.mem_cons, List.not_mem_nil, or_false] at hc; subst hc; exact .v _))) ?_)) ?_) rfl ?_
      simp only [nrm, Nat.reduceBEq, Nat.reduceBNe, reduceIte]
      refine hK _ ?_
      clear hK K
      refine TL.vE (Val.move 1 rfl rfl) ?_
      refine TL.vE (Val.extract rfl rfl rfl) ?_
      refine TL.vE (Val.extract rfl rfl rfl) ?_
      refine TL.opK rfl fun K hK => ?_
      refine OpT.alloc rfl rfl rfl rfl rfl rfl ?_
      simp only [nrm, Nat.reduceBEq, Nat.reduceBNe, reduceIte]
      refine hK _ ?_
      clear hK K
      refine TL.opK rfl fun K hK => ?_
      refine OpT.storeAgg rfl rfl rfl rfl rfl rfl (by simp [St.store1, St.storeAll, St.cellAt, St.isMem, St.root, St.wrote, St.kill, St.setRoot, TS.kill, TV.kill, C.kill, Rt.kill, hitR, hitP, shapeOf, setRow, setAt, rowAt, D.row, D.reRow, List.isPrefixOf]; rfl) ?_ -- None
      simp only [nrm, Nat.reduceBEq, Nat.reduceBNe, reduceIte]
      refine hK _ ?_
      clear hK K
      refine TL.vE (Val.assign 1 rfl rfl) ?_
      refine TL.nil ?_
      show TC _ _ _ _ _ _
      refine TC.seq ?_
      refine TC.seq ?_
      refine TC.region ?_
      refine TL.vE (Val.move 1 rfl rfl) ?_
      refine TL.vE (Val.not rfl rfl) ?_
      refine TL.vE (Val.move 1 rfl rfl) ?_
      refine TL.splitG 2 rfl (fun hg2 => ?_) (fun hg2 => ?_)
      · iterate 2 (refine TL.skip (nope_b rfl rfl hg2) (by simp only [nput]; rfl) ?_)
        refine TL.vE (Val.pickT rfl rfl hg2 rfl) ?_
        refine TL.nil ?_
        show TC _ _ _ _ _ _
        refine TC.cond rfl (fun hb => ?_) (fun hb => absurd hb (by simp))
        refine TC.seq ?_
        have hno : qi = none ∨ g = [] := by first | (left; cases qi <;> simp at hg2 <;> rfl) | (right; cases h : g with | nil => rfl | cons x l => (first | (rw [h] at hb; simp at hb; done) | (rw [h] at hb; simp at hb; omega)))
        refine TC.region ?_
        refine TL.vE (Val.assign 1 rfl rfl) ?_
        refine TL.nil ?_
        show TC _ _ _ _ _ _
        refine TC.ret ?_
        exact ⟨.inr rfl, [_], [_], _, rScript s, rfl, by decide, rfl, by simp [refV, refC, valC, C.kill, hitR], rfl, rfl, by simp, rfl, ⟨(by rw [accept_bad hqa hac hw hm hg hv (hno.imp (fun e => by rw [hqi, e]) id)] <;> first | rfl | (simp; done) | (simp only [rScript, dInsSS, dInsS, List.map_set, List.map_append, List.map_cons, List.map_nil]; done) | (simp only [rScript, dInsSS, dInsS, List.map_set, List.map_append, List.map_cons, List.map_nil]; rfl)), resV (by rw [accept_bad hqa hac hw hm hg hv (hno.imp (fun e => by rw [hqi, e]) id)] <;> first | rfl | (simp; done) | (simp; omega))⟩⟩
      · refine TL.gE rfl hg2 (Val.move 1 rfl rfl) ?_
        refine TL.gE rfl hg2 (Val.eql rfl rfl rfl) ?_
        refine TL.vE (Val.pickF rfl rfl hg2 rfl) ?_
        refine TL.nil ?_
        show TC _ _ _ _ _ _
        refine TC.cond rfl (fun hb => ?_) (fun hb => ?_)
        · have hk108 := hb
          refine TC.seq ?_
          have hno : qi = none ∨ g = [] := by first | (left; cases qi <;> simp at hg2 <;> rfl) | (right; cases h : g with | nil => rfl | cons x l => (first | (rw [h] at hb; simp at hb; done) | (rw [h] at hb; simp at hb; omega)))
          refine TC.region ?_
          refine TL.vE (Val.assign 1 rfl rfl) ?_
          refine TL.nil ?_
          show TC _ _ _ _ _ _
          refine TC.ret ?_
          exact ⟨.inr rfl, [_], [_], _, rScript s, rfl, by decide, rfl, by simp [refV, refC, valC, C.kill, hitR], rfl, rfl, by simp, rfl, ⟨(by rw [accept_bad hqa hac hw hm hg hv (hno.imp (fun e => by rw [hqi, e]) id)] <;> first | rfl | (simp; done) | (simp only [rScript, dInsSS, dInsS, List.map_set, List.map_append, List.map_cons, List.map_nil]; done) | (simp only [rScript, dInsSS, dInsS, List.map_set, List.map_append, List.map_cons, List.map_nil]; rfl)), resV (by rw [accept_bad hqa hac hw hm hg hv (hno.imp (fun e => by rw [hqi, e]) id)] <;> first | rfl | (simp; done) | (simp; omega))⟩⟩
        have hk108 := hb
        refine TC.skip ?_
        show TC _ _ _ _ _ _
        refine TC.seq ?_
        obtain ⟨i, rfl⟩ : ∃ i, qi = some i := by cases qi <;> simp at hg2 <;> exact ⟨_, rfl⟩
        obtain ⟨j, hjl⟩ : ∃ j, g.length = j + 1 := by cases h : g with | nil => (rw [h] at hb; simp at hb) | cons x l => exact ⟨l.length, rfl⟩
        obtain ⟨p, hj⟩ := at_of (xs := g) (k := j) (by omega)
        have hj1 : (((g.map dInsS).length : Nat) : Int) - 1 = (j : Int) := by simp; omega
        have hj2 : ((g.length : Nat) : Int) - 1 = (j : Int) := by omega
        have hpl := hgl.2 p (List.mem_of_getElem? hj)
        have hgj : g[g.length - 1]? = some p := by rw [hjl]; exact hj
        refine TC.regionV [14, 16] [14] [10] [(0, 2), (1, 2), (2, 2), (3, 2), (4, 2), (5, 0), (6, 0), (7, 0), (8, 0), (9, 0), (10, 0), (11, 0), (12, 0), (13, 1), (14, 1), (15, 0), (16, 1)] rfl (by decide +kernel) ?_
        refine TU.valS (by decide) rfl (yes_none rfl) (ValS.pure (Val.move 1 rfl rfl) rfl) (by simp only [nput]; rfl) ?_
        refine TU.valS (by decide) rfl (yes_none rfl) (ValS.nilPtr rfl rfl) (by simp only [nput]; rfl) ?_
        refine TU.valS (by decide) rfl (yes_none rfl) (by exact ValS.load rfl rfl 10 (by decide) rfl rfl (by simp [St.cellAt, St.root, rowAt, setRow, setAt, D.row, D.reRow, listOf, List.getElem?_set_self', List.set_set, hg]; first | rfl | exact ⟨rfl, rfl⟩) rfl) (by simp only [nput, valC]; rfl) ?_
        refine TU.valS (by decide) rfl (yes_none rfl) (ValS.pure (Val.move 1 rfl rfl) rfl) (by simp only [nput]; rfl) ?_
        refine TU.valS (by decide) rfl (yes_none rfl) (by exact (by first | exact ValS.toI (ValS.sub rfl rfl rfl (by (try simp); omega) (by (try simp); omega)) hj2 | exact ValS.toI (ValS.sub rfl rfl rfl (by (try simp); omega) (by (try simp); omega)) hj1)) (by simp only [nput]; rfl) ?_
        refine TU.valE (by decide) rfl (yes_none rfl) (Val.move 1 rfl rfl) (by simp only [nput]; rfl) ?_
        refine TU.valE (by decide) rfl (yes_none rfl) (Val.nilPtr rfl rfl) (by simp only [nput]; rfl) ?_
        refine TU.valE (by decide) rfl (yes_none rfl) (by exact Val.load rfl rfl rfl (by simp [St.cellAt, St.root, rowAt, setRow, setAt, D.row, D.reRow, listOf, List.getElem?_set_self', List.set_set, hg]; first | rfl | exact ⟨rfl, rfl⟩) rfl) (by simp only [nput, valC]; rfl) ?_
        refine TU.valE (by decide) rfl (yes_none rfl) (Val.move 1 rfl rfl) (by simp only [nput]; rfl) ?_
        refine TU.valE (by decide) rfl (yes_none rfl) (by exact (by first | exact Val.toI (Val.sub rfl rfl rfl (by (try simp); omega) (by (try simp); omega)) hj2 | exact Val.toI (Val.sub rfl rfl rfl (by (try simp); omega) (by (try simp); omega)) hj1)) (by simp only [nput]; rfl) ?_
        refine TU.valE (by decide) rfl (yes_none rfl) (by exact Val.index rfl rfl rfl rfl rfl (by simp [St.cellAt, St.root, rowAt, setRow, setAt, D.row, D.reRow, listOf, List.getElem?_set_self', List.set_set, hg]; first | rfl | exact ⟨rfl, rfl⟩) (by omega) (by simp; omega)) (by simp only [nput]; rfl) ?_
        refine TU.valE (by decide) rfl (yes_none rfl) (by exact Val.load rfl rfl rfl (by simp [St.cellAt, St.root, rowAt, setRow, setAt, D.row, D.reRow, listOf, List.getElem?_set_self', List.set_set, hg, hj]; first | rfl | exact ⟨rfl, rfl⟩) rfl) (by simp only [nput, valC]; rfl) ?_
        refine TU.valE (by decide) rfl (yes_none rfl) (by first | exact Val.loadCAgg (n := 2) rfl rfl rfl rfl (Nat.le_of_ble_eq_true rfl) | exact Val.loadAgg (n := 2) rfl rfl rfl rfl (by simp [St.cellsAt, St.cellAt, St.root, valC]; rfl) rfl | exact Val.loadAgg (n := 2) rfl rfl rfl rfl rfl rfl) (by simp only [St.put, List.set_cons_succ, List.set_cons_zero, valC, dIns, rIns, D.row, List.take_succ_cons, List.take_zero, List.map_cons, List.map_nil]; rfl) ?_
        refine TU.takeN 1000001 [(0, m), (0, j)] 0 3000 (by simp [St.takeN, St.cellAt, rowAt, setRow, setAt, D.row, D.reRow, reT, reC, St.take, St.root, St.fresh, St.kill, St.setRoot, TS.kill, TV.kill, C.kill, Rt.kill, hitR, hitP, shapeOf, List.isPrefixOf, List.getElem?_set_self', List.set_set, hg, hj]; rfl) ?_
        refine TU.opM (by decide) rfl (yes_none rfl) fun K hK => ?_
        refine OpM.of (build_value rfl) (fun w0 g0 => ⟨_, OpT.buildP rfl rfl (xs := [(Go.Operand.tmp 121)]) rfl rfl rfl rfl (sz := 2) rfl rfl rfl (by decide) (by decide) rfl⟩) ?_
        refine OpT.buildP rfl rfl (xs := [(Go.Operand.tmp 121)]) rfl rfl rfl rfl (sz := 2) rfl rfl rfl (by decide) (by decide) ?_
        simp only [nrm, Nat.reduceBEq, Nat.reduceBNe, reduceIte]
        refine hK _ ?_
        clear hK K
        refine TU.opB [3000, 122] (by decide) rfl (yes_none rfl) rfl (.cons rfl (by simp [St.cellAt, St.root, rowAt, setRow, setAt, D.row, D.reRow, listOf, List.getElem?_set_self', List.set_set, hg, hj]; first | rfl | exact ⟨rfl, rfl⟩) rfl rfl .nil) (fun w0 g0 => ⟨_, OpT.appendE rfl rfl rfl (sz := 2) rfl rfl rfl (by simp [isPlain, D.row, elD, cellD]) rfl rfl rfl rfl rfl rfl rfl (by simp; omega) rfl⟩) fun K hK => ?_
        refine OpT.appendE rfl rfl rfl (sz := 2) rfl rfl rfl (by simp [isPlain, D.row, elD, cellD]) rfl rfl rfl rfl rfl rfl rfl (by simp; omega) ?_
        simp only [nrm, Nat.reduceBEq, Nat.reduceBNe, reduceIte]
        refine hK _ ?_
        clear hK K
        refine TU.valE (by decide) rfl (yes_none rfl) (by exact Val.index rfl rfl rfl rfl rfl (by simp [St.cellAt, St.root, rowAt, setRow, setAt, D.row, D.reRow, listOf, List.getElem?_set_self', List.set_set, hg, hj]; first | rfl | exact ⟨rfl, rfl⟩) (by omega) (by simp; omega)) (by simp only [nput]; rfl) ?_
        refine TU.opK (by decide) rfl (yes_none rfl) fun K hK => ?_
        refine OpT.store (z := 1) rfl rfl rfl rfl (by simp [St.cellAt, St.root, rowAt, setRow, setAt, D.row, D.reRow, listOf, List.getElem?_set_self', List.set_set, hg, hj]; first | rfl | exact ⟨rfl, rfl⟩) rfl (by simp [St.store1, St.storeAll, St.cellAt, St.isMem, St.root, St.wrote, St.kill, St.setRoot, TS.kill, TV.kill, C.kill, Rt.kill, hitR, hitP, shapeOf, setRow, setAt, rowAt, D.row, D.reRow, List.isPrefixOf, List.getElem?_set_self', List.set_set, hg, hj]; rfl) ?_
        simp only [nrm, Nat.reduceBEq, Nat.reduceBNe, reduceIte]
        refine hK _ ?_
        clear hK K
        refine TU.nil ?_
        show TC _ _ _ _ _ _
        refine TC.seq ?_
        refine TC.region ?_
        refine TL.vE (Val.move 1 rfl rfl) ?_
        refine TL.vE (Val.nilPtr rfl rfl) ?_
        refine TL.valE rfl (by exact Val.load rfl rfl rfl (by simp [St.cellAt, St.root, rowAt, setRow, setAt, D.row, D.reRow, listOf, List.getElem?_set_self', List.set_set, hg, hj]; first | rfl | exact ⟨rfl, rfl⟩) rfl) (by simp only [nput, valC]; rfl) ?_
        refine TL.vE (Val.move 1 rfl rfl) ?_
        refine TL.vE (by exact (by first | exact Val.toI (Val.sub rfl rfl rfl (by (try simp); omega) (by (try simp); omega)) hj2 | exact Val.toI (Val.sub rfl rfl rfl (by (try simp); omega) (by (try simp); omega)) hj1)) ?_
        refine TL.vE (by exact Val.index rfl rfl rfl rfl rfl (by simp [St.cellAt, St.root, rowAt, setRow, setAt, D.row, D.reRow, listOf, List.getElem?_set_self', List.set_set, hg, hj]; first | rfl | exact ⟨rfl, rfl⟩) (by omega) (by simp; omega)) ?_
        refine TL.valE rfl (by exact Val.load rfl rfl rfl (by simp [St.cellAt, St.root, rowAt, setRow, setAt, D.row, D.reRow, listOf, List.getElem?_set_self', List.set_set, hg, hj]; first | rfl | exact ⟨rfl, rfl⟩) rfl) (by simp only [nput, valC]; rfl) ?_
        refine TL.vE (by exact Val.len rfl rfl (by simp [St.cellAt, St.root, rowAt, setRow, setAt, D.row, D.reRow, listOf, List.getElem?_set_self', List.set_set, hg, hj]; first | rfl | exact ⟨rfl, rfl⟩) rfl) ?_
        refine TL.vE (Val.leq rfl rfl rfl) ?_
        refine TL.vE (Val.assign 1 rfl rfl) ?_
        refine TL.nil ?_
        show TC _ _ _ _ _ _
        refine TC.ret ?_
        exact ⟨.inr rfl, [_], [_], _, [.sl 1 ((s.All.map dInsSS).set m (.sl 1 ((g.map dInsS).set j (.sl 2 (p.map dIns ++ [dIns i]))))), .sl 6 (s.Acts.map dAct)], rfl, by decide, rfl, by simp [refV, refC, valC, C.kill, hitR], rfl, rfl, by simp, rfl, ⟨(by rw [accept_ins hqa hac hw hm hg hv hqi hjl hj] <;> first | rfl | (simp; done) | (simp only [rScript, dInsSS, dInsS, List.map_set, List.map_append, List.map_cons, List.map_nil]; done) | (simp only [rScript, dInsSS, dInsS, List.map_set, List.map_append, List.map_cons, List.map_nil]; rfl)), resV (by rw [accept_ins hqa hac hw hm hg hv hqi hjl hj] <;> first | rfl | (simp; done) | (simp; omega))⟩⟩
end Go.Proofs.YtfbjcdhphhfpfaaGreatDoor.T

