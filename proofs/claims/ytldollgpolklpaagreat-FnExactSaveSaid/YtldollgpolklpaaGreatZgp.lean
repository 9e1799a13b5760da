/- Hosts copied by the reference. PRINTED by gen.py out of spec_host2.py. -/
import Derived.Test.YtldollgpolklpaaGreatT3p
import Derived.Test.YtldollgpolklpaaGreatZap
import Derived.Test.YtldollgpolklpaaGreatTzmp
import Derived.Test.YtldollgpolklpaaGreatT2p
namespace Go.Proofs.YtldollgpolklpaaGreat.T
open Go
set_option linter.unusedVariables false
set_option linter.unusedSimpArgs false
set_option maxRecDepth 100000
set_option maxHeartbeats 4000000

def inR (n a b : Int) : Bool := decide (a ≤ n) && decide (n ≤ b)
abbrev noMon : VMon := ⟨[], [], [], [], [], 0, 0, [], 0⟩
def monAt (h : VHost) (m : Int) : Option VMon := if 0 ≤ m then h.Mons[m.toNat]? else none
abbrev RMon (q : Option VMon) : Res → Prop := RG [.a (rMon (q.getD noMon)), .c (.v (.bool q.isSome))]
theorem monAt_some {h : VHost} {m : Int} {x : VMon} (h0 : 0 ≤ m) (hx : h.Mons[m.toNat]? = some x) : monAt h m = some x := by unfold monAt; rw [if_pos h0, hx]
theorem monAt_none {h : VHost} {m : Int} (h0 : ¬ (0 ≤ m ∧ m < h.Mons.length)) : monAt h m = none := by
  unfold monAt
  split
  · exact List.getElem?_eq_none (by omega)
  · rfl
theorem spec_l01In_f (n a b : Int) : Fun Tryz.prog 118 [I n, I a, I b] (RV (.bool (inR n a b))) := by
  refine Fun.of Tryz.func118 rfl (by simp [Tryz.ntmps118]) fun w g0 => ?_
  simp only [Tryz.ntmps118, List.length_cons, List.length_nil, Nat.reduceAdd, Nat.reduceSub, List.replicate, List.cons_append, List.nil_append]
  refine TC.seq ?_
  refine TC.region ?_
  refine TL.vE (Val.assign 1 rfl rfl) ?_
  refine TL.nil ?_
  show TC _ _ _ _ _ _
  refine TC.seq ?_
  refine TC.region ?_
  refine TL.vE (Val.move 1 rfl rfl) ?_
  refine TL.vE (Val.move 1 rfl rfl) ?_
  refine TL.vE (Val.geq rfl rfl rfl) ?_
  refine TL.vE (Val.move 1 rfl rfl) ?_
  refine TL.splitG 3 rfl (fun hg3 => ?_) (fun hg3 => ?_)
  · refine TL.gE rfl hg3 (Val.move 1 rfl rfl) ?_
    refine TL.gE rfl hg3 (Val.move 1 rfl rfl) ?_
    refine TL.gE rfl hg3 (Val.leq rfl rfl rfl) ?_
    refine TL.vE (Val.pickT rfl rfl hg3 rfl) ?_
    refine TL.vE (Val.assign 1 rfl rfl) ?_
    refine TL.nil ?_
    show TC _ _ _ _ _ _
    refine TC.ret ?_
    exact ⟨.inr rfl, [_], [_], _, rfl, by decide, rfl, by simp [refV, refC, valC, C.kill, hitR], rfl, resV (by simp_all [inR] <;> (try intros) <;> omega)⟩
  · iterate 3 (refine TL.skip (nope_b rfl rfl hg3) (by simp only [nput]; rfl) ?_)
    refine TL.vE (Val.pickF rfl rfl hg3 rfl) ?_
    refine TL.vE (Val.assign 1 rfl rfl) ?_
    refine TL.nil ?_
    show TC _ _ _ _ _ _
    refine TC.ret ?_
    exact ⟨.inr rfl, [_], [_], _, rfl, by decide, rfl, by simp [refV, refC, valC, C.kill, hitR], rfl, resV (by simp_all [inR] <;> (try intros) <;> omega)⟩

theorem spec_l07Copy_f (x : VKept) (hx : SmKept x) : Fun Tryz.prog 138 [A (rKept x)] (RG [.a (rKept x)]) := by
  refine Fun.of Tryz.func138 rfl (by simp [Tryz.ntmps138]) fun w g0 => ?_
  simp only [Tryz.ntmps138, List.length_cons, List.length_nil, Nat.reduceAdd, Nat.reduceSub, List.replicate, List.cons_append, List.nil_append]
  refine TC.seq ?_
  refine TC.region ?_
  refine TL.opK rfl fun K hK => ?_
  first | refine OpT.box rfl rfl (z := 1) rfl (by simp) ?_ | refine OpT.boxAgg rfl rfl rfl ?_
  simp only [nrm, Nat.reduceBEq, Nat.reduceBNe, reduceIte]
  refine hK _ ?_
  clear hK K
  refine TL.opK rfl fun K hK => ?_
  refine OpT.alloc rfl rfl rfl rfl rfl rfl ?_
  simp only [nrm, Nat.reduceBEq, Nat.reduceBNe, reduceIte]
  refine hK _ ?_
  clear hK K
  refine TL.nil ?_
  show TC _ _ _ _ _ _
  refine TC.seq ?_
  refine TC.regionT [3, 7, 9] [3, 7] [1] (.quiet 1 2 (.quiet 2 2 (.quiet 5 2 (.quiet 6 2 (.fork (.alt 0 (.fork (.alt 3 (.fork (.alt 4 (.fork (.alt 7 (.quiet 8 0 (.fork (.alt 9 (.done) (.stop)))) (.stop))) (.stop))) (.alt 4 (.fork (.alt 3 (.fork (.alt 7 (.quiet 8 0 (.fork (.alt 9 (.done) (.stop)))) (.stop))) (.stop))) (.stop)))) (.alt 4 (.fork (.alt 0 (.fork (.alt 3 (.fork (.alt 7 (.quiet 8 0 (.fork (.alt 9 (.done) (.stop)))) (.stop))) (.stop))) (.stop))) (.stop)))))))) rfl (by decide +kernel) ?_
  refine TT.valS (by decide) rfl (yes_none rfl) (by first | exact ValS.field rfl rfl rfl | exact ValS.fieldC rfl rfl rfl) (by simp only [nput, npf, Nat.reduceAdd]; rfl) ?_
  refine TT.valS (by decide) rfl (yes_none rfl) (by exact ValS.load rfl rfl 1 (by decide) rfl rfl rfl rfl) (by simp only [nput, valC]; rfl) ?_
  refine TT.valS (by decide) rfl (yes_none rfl) (by first | exact ValS.field rfl rfl rfl | exact ValS.fieldC rfl rfl rfl) (by simp only [nput, npf, Nat.reduceAdd]; rfl) ?_
  refine TT.valS (by decide) rfl (yes_none rfl) (by exact ValS.load rfl rfl 1 (by decide) rfl rfl rfl rfl) (by simp only [nput, valC]; rfl) ?_
  refine TT.fork ?_ (by decide)
  refine TA.opM (by decide) rfl (yes_none rfl) (fun K hK => ?_) ?_
  · refine OpM.of (build_value rfl) (fun w0 g0 => ⟨_, OpT.build0 (sz := 1) rfl rfl rfl rfl rfl⟩) ?_
    refine OpT.build0 (sz := 1) rfl rfl rfl rfl ?_
    simp only [nrm, Nat.reduceBEq, Nat.reduceBNe, reduceIte]
    refine hK _ ?_
    clear hK K
    refine TT.fork ?_ (by decide)
    refine TA.opB [3] (by decide) rfl (yes_none rfl) rfl (.cons rfl rfl rfl rfl .nil) (fun w0 g0 => ⟨_, OpT.appendE rfl rfl rfl (sz := 1) rfl rfl rfl (by intro d hd; obtain ⟨z, _, rfl⟩ := List.mem_map.1 hd; intro c hc; simp only [D.row, rSlot, rIns, List.mem_cons, List.not_mem_nil, or_false] at hc; first | exact ⟨_, hc⟩ | (rcases hc with hc | hc <;> exact ⟨_, hc⟩)) rfl rfl rfl rfl rfl rfl rfl (by have h9 : x.Known.length ≤ 1048576 := hx.1; simp; omega) rfl⟩) (fun K hK => ?_) ?_
    · refine OpT.appendE rfl rfl rfl (sz := 1) rfl rfl rfl (by intro d hd; obtain ⟨z, _, rfl⟩ := List.mem_map.1 hd; intro c hc; simp only [D.row, rSlot, rIns, List.mem_cons, List.not_mem_nil, or_false] at hc; first | exact ⟨_, hc⟩ | (rcases hc with hc | hc <;> exact ⟨_, hc⟩)) rfl rfl rfl rfl rfl rfl rfl (by have h9 : x.Known.length ≤ 1048576 := hx.1; simp; omega) ?_
      simp only [nrm, Nat.reduceBEq, Nat.reduceBNe, reduceIte]
      refine hK _ ?_
      clear hK K
      refine TT.fork ?_ (by decide)
      refine TA.opM (by decide) rfl (yes_none rfl) (fun K hK => ?_) ?_
      · refine OpM.of (build_value rfl) (fun w0 g0 => ⟨_, OpT.build0 (sz := 2) rfl rfl rfl rfl rfl⟩) ?_
        refine OpT.build0 (sz := 2) rfl rfl rfl rfl ?_
        simp only [nrm, Nat.reduceBEq, Nat.reduceBNe, reduceIte]
        refine hK _ ?_
        clear hK K
        refine TT.fork ?_ (by decide)
        refine TA.opB [7] (by decide) rfl (yes_none rfl) rfl (.cons rfl rfl rfl rfl .nil) (fun w0 g0 => ⟨_, OpT.appendE rfl rfl rfl (sz := 2) rfl rfl rfl (by intro d hd; obtain ⟨z, _, rfl⟩ := List.mem_map.1 hd; intro c hc; simp only [D.row, rSlot, rIns, List.mem_cons, List.not_mem_nil, or_false] at hc; first | exact ⟨_, hc⟩ | (rcases hc with hc | hc <;> exact ⟨_, hc⟩)) rfl rfl rfl rfl rfl rfl rfl (by have h9 : x.Slots.length ≤ 1048576 := hx.2; simp; omega) rfl⟩) (fun K hK => ?_) ?_
        · refine OpT.appendE rfl rfl rfl (sz := 2) rfl rfl rfl (by intro d hd; obtain ⟨z, _, rfl⟩ := List.mem_map.1 hd; intro c hc; simp only [D.row, rSlot, rIns, List.mem_cons, List.not_mem_nil, or_false] at hc; first | exact ⟨_, hc⟩ | (rcases hc with hc | hc <;> exact ⟨_, hc⟩)) rfl rfl rfl rfl rfl rfl rfl (by have h9 : x.Slots.length ≤ 1048576 := hx.2; simp; omega) ?_
          simp only [nrm, Nat.reduceBEq, Nat.reduceBNe, reduceIte]
          refine hK _ ?_
          clear hK K
          refine TT.valE (by decide) rfl (yes_none rfl) (Val.build (parts := [(0, (Go.Operand.tmp 6)), (1, (Go.Operand.tmp 10))]) (place := [(0, 1), (1, 1)]) rfl rfl rfl rfl rfl rfl rfl rfl rfl (by simp [fillC]; rfl)) (by simp only [nput]; rfl) ?_
          refine TT.fork ?_ (by decide)
          refine TA.opK (by decide) rfl (yes_none rfl) (fun K hK => ?_) ?_
          · refine OpT.storeAgg rfl rfl rfl rfl rfl rfl (by simp [St.store1, St.storeAll, St.cellAt, St.isMem, St.root, St.wrote, St.kill, St.setRoot, TS.kill, TV.kill, C.kill, Rt.kill, hitR, hitP, shapeOf, setRow, setAt, rowAt, D.row, D.reRow, List.isPrefixOf]; rfl) ?_ -- None
            simp only [nrm, Nat.reduceBEq, Nat.reduceBNe, reduceIte]
            refine hK _ ?_
            clear hK K
            refine TT.nil ?_
            show TC _ _ _ _ _ _
            refine TC.ret ?_
            exact ⟨.inr rfl, [_], [_], _, rfl, by decide, rfl, by simp [refV, refC, valC, C.kill, hitR], rfl, rfl⟩
          exact TA.stop
        exact TA.stop
      exact TA.stop
    refine TA.opM (by decide) rfl (yes_none rfl) (fun K hK => ?_) ?_
    · refine OpM.of (build_value rfl) (fun w0 g0 => ⟨_, OpT.build0 (sz := 2) rfl rfl rfl rfl rfl⟩) ?_
      refine OpT.build0 (sz := 2) rfl rfl rfl rfl ?_
      simp only [nrm, Nat.reduceBEq, Nat.reduceBNe, reduceIte]
      refine hK _ ?_
      clear hK K
      refine TT.fork ?_ (by decide)
      refine TA.opB [3] (by decide) rfl (yes_none rfl) rfl (.cons rfl rfl rfl rfl .nil) (fun w0 g0 => ⟨_, OpT.appendE rfl rfl rfl (sz := 1) rfl rfl rfl (by intro d hd; obtain ⟨z, _, rfl⟩ := List.mem_map.1 hd; intro c hc; simp only [D.row, rSlot, rIns, List.mem_cons, List.not_mem_nil, or_false] at hc; first | exact ⟨_, hc⟩ | (rcases hc with hc | hc <;> exact ⟨_, hc⟩)) rfl rfl rfl rfl rfl rfl rfl (by have h9 : x.Known.length ≤ 1048576 := hx.1; simp; omega) rfl⟩) (fun K hK => ?_) ?_
      · refine OpT.appendE rfl rfl rfl (sz := 1) rfl rfl rfl (by intro d hd; obtain ⟨z, _, rfl⟩ := List.mem_map.1 hd; intro c hc; simp only [D.row, rSlot, rIns, List.mem_cons, List.not_mem_nil, or_false] at hc; first | exact ⟨_, hc⟩ | (rcases hc with hc | hc <;> exact ⟨_, hc⟩)) rfl rfl rfl rfl rfl rfl rfl (by have h9 : x.Known.length ≤ 1048576 := hx.1; simp; omega) ?_
        simp only [nrm, Nat.reduceBEq, Nat.reduceBNe, reduceIte]
        refine hK _ ?_
        clear hK K
        refine TT.fork ?_ (by decide)
        refine TA.opB [7] (by decide) rfl (yes_none rfl) rfl (.cons rfl rfl rfl rfl .nil) (fun w0 g0 => ⟨_, OpT.appendE rfl rfl rfl (sz := 2) rfl rfl rfl (by intro d hd; obtain ⟨z, _, rfl⟩ := List.mem_map.1 hd; intro c hc; simp only [D.row, rSlot, rIns, List.mem_cons, List.not_mem_nil, or_false] at hc; first | exact ⟨_, hc⟩ | (rcases hc with hc | hc <;> exact ⟨_, hc⟩)) rfl rfl rfl rfl rfl rfl rfl (by have h9 : x.Slots.length ≤ 1048576 := hx.2; simp; omega) rfl⟩) (fun K hK => ?_) ?_
        · refine OpT.appendE rfl rfl rfl (sz := 2) rfl rfl rfl (by intro d hd; obtain ⟨z, _, rfl⟩ := List.mem_map.1 hd; intro c hc; simp only [D.row, rSlot, rIns, List.mem_cons, List.not_mem_nil, or_false] at hc; first | exact ⟨_, hc⟩ | (rcases hc with hc | hc <;> exact ⟨_, hc⟩)) rfl rfl rfl rfl rfl rfl rfl (by have h9 : x.Slots.length ≤ 1048576 := hx.2; simp; omega) ?_
          simp only [nrm, Nat.reduceBEq, Nat.reduceBNe, reduceIte]
          refine hK _ ?_
          clear hK K
          refine TT.valE (by decide) rfl (yes_none rfl) (Val.build (parts := [(0, (Go.Operand.tmp 6)), (1, (Go.Operand.tmp 10))]) (place := [(0, 1), (1, 1)]) rfl rfl rfl rfl rfl rfl rfl rfl rfl (by simp [fillC]; rfl)) (by simp only [nput]; rfl) ?_
          refine TT.fork ?_ (by decide)
          refine TA.opK (by decide) rfl (yes_none rfl) (fun K hK => ?_) ?_
          · refine OpT.storeAgg rfl rfl rfl rfl rfl rfl (by simp [St.store1, St.storeAll, St.cellAt, St.isMem, St.root, St.wrote, St.kill, St.setRoot, TS.kill, TV.kill, C.kill, Rt.kill, hitR, hitP, shapeOf, setRow, setAt, rowAt, D.row, D.reRow, List.isPrefixOf]; rfl) ?_ -- None
            simp only [nrm, Nat.reduceBEq, Nat.reduceBNe, reduceIte]
            refine hK _ ?_
            clear hK K
            refine TT.nil ?_
            show TC _ _ _ _ _ _
            refine TC.ret ?_
            exact ⟨.inr rfl, [_], [_], _, rfl, by decide, rfl, by simp [refV, refC, valC, C.kill, hitR], rfl, rfl⟩
          exact TA.stop
        exact TA.stop
      exact TA.stop
    exact TA.stop
  refine TA.opM (by decide) rfl (yes_none rfl) (fun K hK => ?_) ?_
  · refine OpM.of (build_value rfl) (fun w0 g0 => ⟨_, OpT.build0 (sz := 2) rfl rfl rfl rfl rfl⟩) ?_
    refine OpT.build0 (sz := 2) rfl rfl rfl rfl ?_
    simp only [nrm, Nat.reduceBEq, Nat.reduceBNe, reduceIte]
    refine hK _ ?_
    clear hK K
    refine TT.fork ?_ (by decide)
    refine TA.opM (by decide) rfl (yes_none rfl) (fun K hK => ?_) ?_
    · refine OpM.of (build_value rfl) (fun w0 g0 => ⟨_, OpT.build0 (sz := 1) rfl rfl rfl rfl rfl⟩) ?_
      refine OpT.build0 (sz := 1) rfl rfl rfl rfl ?_
      simp only [nrm, Nat.reduceBEq, Nat.reduceBNe, reduceIte]
      refine hK _ ?_
      clear hK K
      refine TT.fork ?_ (by decide)
      refine TA.opB [3] (by decide) rfl (yes_none rfl) rfl (.cons rfl rfl rfl rfl .nil) (fun w0 g0 => ⟨_, OpT.appendE rfl rfl rfl (sz := 1) rfl rfl rfl (by intro d hd; obtain ⟨z, _, rfl⟩ := List.mem_map.1 hd; intro c hc; simp only [D.row, rSlot, rIns, List.mem_cons, List.not_mem_nil, or_false] at hc; first | exact ⟨_, hc⟩ | (rcases hc with hc | hc <;> exact ⟨_, hc⟩)) rfl rfl rfl rfl rfl rfl rfl (by have h9 : x.Known.length ≤ 1048576 := hx.1; simp; omega) rfl⟩) (fun K hK => ?_) ?_
      · refine OpT.appendE rfl rfl rfl (sz := 1) rfl rfl rfl (by intro d hd; obtain ⟨z, _, rfl⟩ := List.mem_map.1 hd; intro c hc; simp only [D.row, rSlot, rIns, List.mem_cons, List.not_mem_nil, or_false] at hc; first | exact ⟨_, hc⟩ | (rcases hc with hc | hc <;> exact ⟨_, hc⟩)) rfl rfl rfl rfl rfl rfl rfl (by have h9 : x.Known.length ≤ 1048576 := hx.1; simp; omega) ?_
        simp only [nrm, Nat.reduceBEq, Nat.reduceBNe, reduceIte]
        refine hK _ ?_
        clear hK K
        refine TT.fork ?_ (by decide)
        refine TA.opB [7] (by decide) rfl (yes_none rfl) rfl (.cons rfl rfl rfl rfl .nil) (fun w0 g0 => ⟨_, OpT.appendE rfl rfl rfl (sz := 2) rfl rfl rfl (by intro d hd; obtain ⟨z, _, rfl⟩ := List.mem_map.1 hd; intro c hc; simp only [D.row, rSlot, rIns, List.mem_cons, List.not_mem_nil, or_false] at hc; first | exact ⟨_, hc⟩ | (rcases hc with hc | hc <;> exact ⟨_, hc⟩)) rfl rfl rfl rfl rfl rfl rfl (by have h9 : x.Slots.length ≤ 1048576 := hx.2; simp; omega) rfl⟩) (fun K hK => ?_) ?_
        · refine OpT.appendE rfl rfl rfl (sz := 2) rfl rfl rfl (by intro d hd; obtain ⟨z, _, rfl⟩ := List.mem_map.1 hd; intro c hc; simp only [D.row, rSlot, rIns, List.mem_cons, List.not_mem_nil, or_false] at hc; first | exact ⟨_, hc⟩ | (rcases hc with hc | hc <;> exact ⟨_, hc⟩)) rfl rfl rfl rfl rfl rfl rfl (by have h9 : x.Slots.length ≤ 1048576 := hx.2; simp; omega) ?_
          simp only [nrm, Nat.reduceBEq, Nat.reduceBNe, reduceIte]
          refine hK _ ?_
          clear hK K
          refine TT.valE (by decide) rfl (yes_none rfl) (Val.build (parts := [(0, (Go.Operand.tmp 6)), (1, (Go.Operand.tmp 10))]) (place := [(0, 1), (1, 1)]) rfl rfl rfl rfl rfl rfl rfl rfl rfl (by simp [fillC]; rfl)) (by simp only [nput]; rfl) ?_
          refine TT.fork ?_ (by decide)
          refine TA.opK (by decide) rfl (yes_none rfl) (fun K hK => ?_) ?_
          · refine OpT.storeAgg rfl rfl rfl rfl rfl rfl (by simp [St.store1, St.storeAll, St.cellAt, St.isMem, St.root, St.wrote, St.kill, St.setRoot, TS.kill, TV.kill, C.kill, Rt.kill, hitR, hitP, shapeOf, setRow, setAt, rowAt, D.row, D.reRow, List.isPrefixOf]; rfl) ?_ -- None
            simp only [nrm, Nat.reduceBEq, Nat.reduceBNe, reduceIte]
            refine hK _ ?_
            clear hK K
            refine TT.nil ?_
            show TC _ _ _ _ _ _
            refine TC.ret ?_
            exact ⟨.inr rfl, [_], [_], _, rfl, by decide, rfl, by simp [refV, refC, valC, C.kill, hitR], rfl, rfl⟩
          exact TA.stop
        exact TA.stop
      exact TA.stop
    exact TA.stop
  exact TA.stop

theorem spec_l15Copy_f (x : VGuest) (hx : SmGuest x) : Fun Tryz.prog 163 [A (rGuest x)] (RG [.a (rGuest x)]) := by
  refine Fun.of Tryz.func163 rfl (by simp [Tryz.ntmps163]) fun w g0 => ?_
  simp only [Tryz.ntmps163, List.length_cons, List.length_nil, Nat.reduceAdd, Nat.reduceSub, List.replicate, List.cons_append, List.nil_append]
  refine TC.seq ?_
  refine TC.region ?_
  refine TL.opK rfl fun K hK => ?_
  first | refine OpT.box rfl rfl (z := 1) rfl (by simp) ?_ | refine OpT.boxAgg rfl rfl rfl ?_
  simp only [nrm, Nat.reduceBEq, Nat.reduceBNe, reduceIte]
  refine hK _ ?_
  clear hK K
  refine TL.opK rfl fun K hK => ?_
  refine OpT.alloc rfl rfl rfl rfl rfl rfl ?_
  simp only [nrm, Nat.reduceBEq, Nat.reduceBNe, reduceIte]
  refine hK _ ?_
  clear hK K
  refine TL.nil ?_
  show TC _ _ _ _ _ _
  refine TC.seq ?_
  refine TC.region ?_
  refine TL.opK rfl fun K hK => ?_
  refine OpT.build0 (sz := 2) rfl rfl rfl rfl ?_
  simp only [nrm, Nat.reduceBEq, Nat.reduceBNe, reduceIte]
  refine hK _ ?_
  clear hK K
  refine TL.fld ?_
  refine TL.ld ?_
  refine TL.opK rfl fun K hK => ?_
  refine OpT.appendE rfl rfl rfl (sz := 2) rfl rfl rfl (by intro d hd; obtain ⟨z, _, rfl⟩ := List.mem_map.1 hd; intro c hc; simp only [D.row, rSlot, rIns, List.mem_cons, List.not_mem_nil, or_false] at hc; first | exact ⟨_, hc⟩ | (rcases hc with hc | hc <;> exact ⟨_, hc⟩)) rfl rfl rfl rfl rfl rfl rfl (by have h9 : x.Prog.length ≤ 1048576 := hx.1; simp; omega) ?_
  simp only [nrm, Nat.reduceBEq, Nat.reduceBNe, reduceIte]
  refine hK _ ?_
  clear hK K
  refine TL.fld ?_
  refine TL.opK rfl fun K hK => ?_
  refine OpT.store (z := 1) rfl rfl rfl rfl rfl rfl (by simp [St.store1, St.storeAll, St.cellAt, St.isMem, St.root, St.wrote, St.kill, St.setRoot, TS.kill, TV.kill, C.kill, Rt.kill, hitR, hitP, shapeOf, setRow, setAt, rowAt, D.row, D.reRow, List.isPrefixOf]; rfl) ?_ -- None
  simp only [nrm, Nat.reduceBEq, Nat.reduceBNe, reduceIte]
  refine hK _ ?_
  clear hK K
  refine TL.nil ?_
  show TC _ _ _ _ _ _
  refine TC.seq ?_
  refine TC.region ?_
  refine TL.opK rfl fun K hK => ?_
  refine OpT.build0 (sz := 2) rfl rfl rfl rfl ?_
  simp only [nrm, Nat.reduceBEq, Nat.reduceBNe, reduceIte]
  refine hK _ ?_
  clear hK K
  refine TL.fld ?_
  refine TL.ld ?_
  refine TL.opK rfl fun K hK => ?_
  refine OpT.appendE rfl rfl rfl (sz := 2) rfl rfl rfl (by intro d hd; obtain ⟨z, _, rfl⟩ := List.mem_map.1 hd; intro c hc; simp only [D.row, rSlot, rIns, List.mem_cons, List.not_mem_nil, or_false] at hc; first | exact ⟨_, hc⟩ | (rcases hc with hc | hc <;> exact ⟨_, hc⟩)) rfl rfl rfl rfl rfl rfl rfl (by have h9 : x.Written.length ≤ 1048576 := hx.2.1; simp; omega) ?_
  simp only [nrm, Nat.reduceBEq, Nat.reduceBNe, reduceIte]
  refine hK _ ?_
  clear hK K
  refine TL.fld ?_
  refine TL.opK rfl fun K hK => ?_
  refine OpT.store (z := 1) rfl rfl rfl rfl rfl rfl (by simp [St.store1, St.storeAll, St.cellAt, St.isMem, St.root, St.wrote, St.kill, St.setRoot, TS.kill, TV.kill, C.kill, Rt.kill, hitR, hitP, shapeOf, setRow, setAt, rowAt, D.row, D.reRow, List.isPrefixOf]; rfl) ?_ -- None
  simp only [nrm, Nat.reduceBEq, Nat.reduceBNe, reduceIte]
  refine hK _ ?_
  clear hK K
  refine TL.nil ?_
  show TC _ _ _ _ _ _
  refine TC.seq ?_
  refine TC.region ?_
  refine TL.opK rfl fun K hK => ?_
  refine OpT.build0 (sz := 2) rfl rfl rfl rfl ?_
  simp only [nrm, Nat.reduceBEq, Nat.reduceBNe, reduceIte]
  refine hK _ ?_
  clear hK K
  refine TL.fld ?_
  refine TL.ld ?_
  refine TL.opK rfl fun K hK => ?_
  refine OpT.appendE rfl rfl rfl (sz := 2) rfl rfl rfl (by intro d hd; obtain ⟨z, _, rfl⟩ := List.mem_map.1 hd; intro c hc; simp only [D.row, rSlot, rIns, List.mem_cons, List.not_mem_nil, or_false] at hc; first | exact ⟨_, hc⟩ | (rcases hc with hc | hc <;> exact ⟨_, hc⟩)) rfl rfl rfl rfl rfl rfl rfl (by have h9 : x.Live.length ≤ 1048576 := hx.2.2.1; simp; omega) ?_
  simp only [nrm, Nat.reduceBEq, Nat.reduceBNe, reduceIte]
  refine hK _ ?_
  clear hK K
  refine TL.fld ?_
  refine TL.opK rfl fun K hK => ?_
  refine OpT.store (z := 1) rfl rfl rfl rfl rfl rfl (by simp [St.store1, St.storeAll, St.cellAt, St.isMem, St.root, St.wrote, St.kill, St.setRoot, TS.kill, TV.kill, C.kill, Rt.kill, hitR, hitP, shapeOf, setRow, setAt, rowAt, D.row, D.reRow, List.isPrefixOf]; rfl) ?_ -- None
  simp only [nrm, Nat.reduceBEq, Nat.reduceBNe, reduceIte]
  refine hK _ ?_
  clear hK K
  refine TL.nil ?_
  show TC _ _ _ _ _ _
  refine TC.seq ?_
  refine TC.region ?_
  refine TL.opK rfl fun K hK => ?_
  refine OpT.build0 (sz := 1) rfl rfl rfl rfl ?_
  simp only [nrm, Nat.reduceBEq, Nat.reduceBNe, reduceIte]
  refine hK _ ?_
  clear hK K
  refine TL.fld ?_
  refine TL.ld ?_
  refine TL.opK rfl fun K hK => ?_
  refine OpT.appendE rfl rfl rfl (sz := 1) rfl rfl rfl (by intro d hd; obtain ⟨z, _, rfl⟩ := List.mem_map.1 hd; intro c hc; simp only [D.row, rSlot, rIns, List.mem_cons, List.not_mem_nil, or_false] at hc; first | exact ⟨_, hc⟩ | (rcases hc with hc | hc <;> exact ⟨_, hc⟩)) rfl rfl rfl rfl rfl rfl rfl (by have h9 : x.Seen.length ≤ 1048576 := hx.2.2.2; simp; omega) ?_
  simp only [nrm, Nat.reduceBEq, Nat.reduceBNe, reduceIte]
  refine hK _ ?_
  clear hK K
  refine TL.fld ?_
  refine TL.opK rfl fun K hK => ?_
  refine OpT.store (z := 1) rfl rfl rfl rfl rfl rfl (by simp [St.store1, St.storeAll, St.cellAt, St.isMem, St.root, St.wrote, St.kill, St.setRoot, TS.kill, TV.kill, C.kill, Rt.kill, hitR, hitP, shapeOf, setRow, setAt, rowAt, D.row, D.reRow, List.isPrefixOf]; rfl) ?_ -- None
  simp only [nrm, Nat.reduceBEq, Nat.reduceBNe, reduceIte]
  refine hK _ ?_
  clear hK K
  refine TL.nil ?_
  show TC _ _ _ _ _ _
  refine TC.seq ?_
  refine TC.region ?_
  refine TL.valE rfl (by first | exact Val.loadCAgg (n := 15) rfl rfl rfl rfl (Nat.le_of_ble_eq_true rfl) | exact Val.loadAgg (n := 15) rfl rfl rfl rfl (by simp [St.cellsAt, St.cellAt, St.root, valC]; rfl) rfl | exact Val.loadAgg (n := 15) rfl rfl rfl rfl rfl rfl) (by simp only [St.put, List.set_cons_succ, List.set_cons_zero, valC, dGuest, rGuest, D.row, List.take_succ_cons, List.take_zero, List.map_cons, List.map_nil]; rfl) ?_
  refine TL.opK rfl fun K hK => ?_
  refine OpT.storeAgg rfl rfl rfl rfl rfl rfl (by simp [St.store1, St.storeAll, St.cellAt, St.isMem, St.root, St.wrote, St.kill, St.setRoot, TS.kill, TV.kill, C.kill, Rt.kill, hitR, hitP, shapeOf, setRow, setAt, rowAt, D.row, D.reRow, List.isPrefixOf]; rfl) ?_ -- None
  simp only [nrm, Nat.reduceBEq, Nat.reduceBNe, reduceIte]
  refine hK _ ?_
  clear hK K
  refine TL.nil ?_
  show TC _ _ _ _ _ _
  refine TC.ret ?_
  exact ⟨.inr rfl, [_], [_], _, rfl, by decide, rfl, by simp [refV, refC, valC, C.kill, hitR], rfl, rfl⟩

theorem spec_l04Copy_f (xs : List (List Int)) (hx : SmIntSS xs) : Fun Tryz.prog 100 [L 1 (xs.map dIntS)] (RL 1 (xs.map dIntS)) := by
  refine Fun.of Tryz.func100 rfl (by simp [Tryz.ntmps100]) fun w g0 => ?_
  simp only [Tryz.ntmps100, List.length_cons, List.length_nil, Nat.reduceAdd, Nat.reduceSub, List.replicate, List.cons_append, List.nil_append]
  have hlen : xs.length ≤ 1048576 := hx.1
  refine TC.seq ?_
  refine TC.region ?_
  refine TL.vE (Val.assign 1 rfl rfl) ?_
  refine TL.nil ?_
  show TC _ _ _ _ _ _
  refine TC.seq ?_
  refine TC.region ?_
  refine TL.opK rfl fun K hK => ?_
  refine OpT.build0 (sz := 1) rfl rfl rfl rfl ?_
  simp only [nrm, Nat.reduceBEq, Nat.reduceBNe, reduceIte]
  refine hK _ ?_
  clear hK K
  refine TL.vE (Val.assign 1 rfl rfl) ?_
  refine TL.nil ?_
  show TC _ _ _ _ _ _
  refine TC.seq ?_
  refine TC.seq ?_
  refine TC.region ?_
  refine TL.vE (Val.assign 1 rfl rfl) ?_
  refine TL.nil ?_
  show TC _ _ _ _ _ _
  refine TC.block ?_
  refine TC.loop (fun μ st => ∃ i : Nat, (i ≤ xs.length) ∧ μ = xs.length - i ∧ Can st ⟨[L 1 (xs.map dIntS), .one .dead, .one .dead, .one (.c (.ref ⟨3, [], 0⟩)), I i, .one .dead, .one .dead, .one .dead, .one .dead, .one .dead, .one .dead, .one .dead, .one .dead, .one .dead, .one .dead, .one .dead, .one .dead, .one .dead, .one .dead, .one .dead, .one .dead, .one .dead], [(3, ⟨false, [.own (.sl 1 ((xs.take i).map dIntS))]⟩)]⟩) (xs.length) ?_ fun μ st hI => ?_
  · refine ⟨0, by simp, by simp, ?_⟩
    exact Can.name 5 3 (by simp only [St.name, nameS, nameV, nameC, nameR, List.map_cons, List.map_nil, Nat.reduceEqDiff, if_true, if_false, ne_eq, not_true, not_false, and_true, and_false, true_and, false_and, reduceIte]; rfl) (Can.too (.cons rfl (by simp) .nil))
  · obtain ⟨i, hyp, rfl, hcan⟩ := hI
    refine TC.can hcan ?_
    clear hcan
    refine TC.seq ?_
    refine TC.seq ?_
    refine TC.region ?_
    refine TL.vE (Val.move 1 rfl rfl) ?_
    refine TL.vE (Val.move 1 rfl rfl) ?_
    refine TL.vE (by first | exact Val.len rfl rfl rfl rfl | exact Val.lenS rfl rfl rfl) ?_
    refine TL.vE (Val.lss rfl rfl rfl) ?_
    refine TL.nil ?_
    show TC _ _ _ _ _ _
    refine TC.cond rfl (fun hb => ?_) (fun hb => ?_)
    · have hk9 := hb
      refine TC.skip ?_
      show TC _ _ _ _ _ _
      refine TC.seq ?_
      refine TC.block ?_
      have hi : i < xs.length := by simpa using hb
      obtain ⟨y, hy⟩ := at_of (xs := xs) (k := i) hi
      have hy9 : SmIntS y := hx.2 y (List.mem_of_getElem? hy)
      refine TC.region ?_
      refine TL.vE (Val.move 1 rfl rfl) ?_
      refine TL.opK rfl fun K hK => ?_
      refine OpT.build0 (sz := 1) rfl rfl rfl rfl ?_
      simp only [nrm, Nat.reduceBEq, Nat.reduceBNe, reduceIte]
      refine hK _ ?_
      clear hK K
      refine TL.vE (Val.move 1 rfl rfl) ?_
      refine TL.vE (Val.move 1 rfl rfl) ?_
      refine TL.vE (by exact Val.indexC (d := dIntS y) rfl rfl rfl rfl rfl (by omega) (by simp [hy])) ?_
      refine TL.ld ?_
      refine TL.opK rfl fun K hK => ?_
      refine OpT.appendE rfl rfl rfl (sz := 1) rfl rfl rfl (by intro d hd; obtain ⟨z, _, rfl⟩ := List.mem_map.1 hd; intro c hc; simp only [D.row, rSlot, rIns, List.mem_cons, List.not_mem_nil, or_false] at hc; first | exact ⟨_, hc⟩ | (rcases hc with hc | hc <;> exact ⟨_, hc⟩)) rfl rfl rfl rfl rfl rfl rfl (by have h9 : y.length ≤ 1048576 := hy9; simp; omega) ?_
      simp only [nrm, Nat.reduceBEq, Nat.reduceBNe, reduceIte]
      refine hK _ ?_
      clear hK K
      refine TL.opK rfl fun K hK => ?_
      refine OpT.build1 rfl rfl (z := 0) rfl rfl rfl rfl rfl (by decide) (by decide) (by simp [St.adopt, cellsV, elD, cellD, St.renew, St.store1, St.storeAll, St.cellAt, St.isMem, St.root, St.wrote, St.kill, St.setRoot, TS.kill, TV.kill, C.kill, Rt.kill, hitR, hitP, shapeOf, setRow, setAt, rowAt, D.row, D.reRow, List.isPrefixOf]; rfl) ?_
      simp only [nrm, Nat.reduceBEq, Nat.reduceBNe, reduceIte]
      refine hK _ ?_
      clear hK K
      refine TL.opK rfl fun K hK => ?_
      refine OpT.appendOE rfl rfl rfl rfl rfl rfl (by decide) (by simp [D.row]) rfl rfl rfl rfl rfl rfl rfl (by simp; omega) ?_
      simp only [nrm, Nat.reduceBEq, Nat.reduceBNe, reduceIte]
      refine hK _ ?_
      clear hK K
      refine TL.vE (Val.assign 1 rfl rfl) ?_
      refine TL.nil ?_
      show TC _ _ _ _ _ _
      refine TC.region ?_
      refine TL.vE (Val.move 1 rfl rfl) ?_
      refine TL.vE (Val.addO rfl rfl rfl) ?_
      refine TL.vE (Val.assign 1 rfl rfl) ?_
      refine TL.nil ?_
      first | refine Seq.normal ⟨_, ?_, i + 1, ?_, rfl, ?_⟩ | refine Seq.normal (Q := fun _ _ => True) ⟨_, ?_, i + 1, ?_, rfl, ?_⟩
      · omega
      · omega
      · exact Can.name 20 3 (by simp only [St.name, nameS, nameV, nameC, nameR, List.map_cons, List.map_nil, Nat.reduceEqDiff, if_true, if_false, ne_eq, not_true, not_false, and_true, and_false, true_and, false_and, reduceIte]; rfl) (Can.too (.cons rfl (by simp [elD, cellD, List.take_add_one, hy]) .nil))
    have hk9 := hb
    refine TC.exit ?_
    show TC _ _ _ _ _ _
    refine TC.seq ?_
    have hie : xs.length ≤ i := by simp at hb; omega
    rw [List.take_of_length_le hie]
    refine TC.region ?_
    refine TL.vE (Val.move 1 rfl rfl) ?_
    refine TL.vE (Val.assign 1 rfl rfl) ?_
    refine TL.nil ?_
    show TC _ _ _ _ _ _
    refine TC.ret ?_
    exact ⟨.inr rfl, [_], [_], _, rfl, by decide, rfl, by simp [refV, refC, valC, C.kill, hitR], rfl, rfl⟩

theorem spec_l17Guests_f (xs : List VGuest) (hx : SmGuestS xs) : Fun Tryz.prog 121 [L 15 (xs.map dGuest)] (RL 15 (xs.map dGuest)) := by
  refine Fun.of Tryz.func121 rfl (by simp [Tryz.ntmps121]) fun w g0 => ?_
  simp only [Tryz.ntmps121, List.length_cons, List.length_nil, Nat.reduceAdd, Nat.reduceSub, List.replicate, List.cons_append, List.nil_append]
  have hlen : xs.length ≤ 1048576 := hx.1
  refine TC.seq ?_
  refine TC.region ?_
  refine TL.vE (Val.assign 1 rfl rfl) ?_
  refine TL.nil ?_
  show TC _ _ _ _ _ _
  refine TC.seq ?_
  refine TC.region ?_
  refine TL.opK rfl fun K hK => ?_
  refine OpT.build0 (sz := 15) rfl rfl rfl rfl ?_
  simp only [nrm, Nat.reduceBEq, Nat.reduceBNe, reduceIte]
  refine hK _ ?_
  clear hK K
  refine TL.vE (Val.assign 1 rfl rfl) ?_
  refine TL.nil ?_
  show TC _ _ _ _ _ _
  refine TC.seq ?_
  refine TC.seq ?_
  refine TC.region ?_
  refine TL.vE (Val.assign 1 rfl rfl) ?_
  refine TL.nil ?_
  show TC _ _ _ _ _ _
  refine TC.block ?_
  refine TC.loop (fun μ st => ∃ i : Nat, (i ≤ xs.length) ∧ μ = xs.length - i ∧ Can st ⟨[L 15 (xs.map dGuest), .one .dead, .one .dead, .one (.c (.ref ⟨3, [], 0⟩)), I i, .one .dead, .one .dead, .one .dead, .one .dead, .one .dead, .one .dead, .one .dead, .one .dead, .one .dead, .one .dead, .one .dead, .one .dead, .one .dead, .one .dead, .one .dead, .one .dead], [(3, ⟨false, [.own (.sl 15 ((xs.take i).map dGuest))]⟩)]⟩) (xs.length) ?_ fun μ st hI => ?_
  · refine ⟨0, by simp, by simp, ?_⟩
    exact Can.name 5 3 (by simp only [St.name, nameS, nameV, nameC, nameR, List.map_cons, List.map_nil, Nat.reduceEqDiff, if_true, if_false, ne_eq, not_true, not_false, and_true, and_false, true_and, false_and, reduceIte]; rfl) (Can.too (.cons rfl (by simp) .nil))
  · obtain ⟨i, hyp, rfl, hcan⟩ := hI
    refine TC.can hcan ?_
    clear hcan
    refine TC.seq ?_
    refine TC.seq ?_
    refine TC.region ?_
    refine TL.vE (Val.move 1 rfl rfl) ?_
    refine TL.vE (Val.move 1 rfl rfl) ?_
    refine TL.vE (by first | exact Val.len rfl rfl rfl rfl | exact Val.lenS rfl rfl rfl) ?_
    refine TL.vE (Val.lss rfl rfl rfl) ?_
    refine TL.nil ?_
    show TC _ _ _ _ _ _
    refine TC.cond rfl (fun hb => ?_) (fun hb => ?_)
    · have hk9 := hb
      refine TC.skip ?_
      show TC _ _ _ _ _ _
      refine TC.seq ?_
      refine TC.block ?_
      have hi : i < xs.length := by simpa using hb
      obtain ⟨y, hy⟩ := at_of (xs := xs) (k := i) hi
      have hy9 : SmGuest y := hx.2 y (List.mem_of_getElem? hy)
      refine TC.region ?_
      refine TL.vE (Val.move 1 rfl rfl) ?_
      refine TL.vE (Val.move 1 rfl rfl) ?_
      refine TL.vE (Val.move 1 rfl rfl) ?_
      refine TL.vE (by exact Val.indexC (d := dGuest y) rfl rfl rfl rfl rfl (by omega) (by simp [hy])) ?_
      refine TL.valE rfl (by first | exact Val.loadCAgg (n := 15) rfl rfl rfl rfl (Nat.le_of_ble_eq_true rfl) | exact Val.loadAgg (n := 15) rfl rfl rfl rfl (by simp [St.cellsAt, St.cellAt, St.root, valC]; rfl) rfl | exact Val.loadAgg (n := 15) rfl rfl rfl rfl rfl rfl) (by simp only [St.put, List.set_cons_succ, List.set_cons_zero, valC, dGuest, rGuest, D.row, List.take_succ_cons, List.take_zero, List.map_cons, List.map_nil]; rfl) ?_
      refine TL.opK rfl fun K hK => ?_
      refine OpT.callG rfl rfl rfl rfl rfl rfl ((spec_l15Copy_f y hy9).k) (by repeat first | exact .nil | refine Snaps.cons (.ro _) ?_ | refine Snaps.cons (.aggRo rfl) ?_ | refine Snaps.cons (.cptr _) ?_ | refine Snaps.cons (.fn _) ?_ | refine Snaps.cons (.ownRef rfl (by first | assumption | exact w_IntS _ | exact w_IntSS _ | exact w_SlotS _ | exact w_BoolS _ | exact w_InsS _ | exact w_GuestS _ | exact w_KeptS _ | exact w_MonS _ | exact w_EntryS _ | exact w_BareS _)) ?_ | refine Snaps.cons (.aggR (by repeat first | exact .nil | refine SnapCs.cons (.ro _) ?_ | refine SnapCs.cons (.ref rfl (by first | assumption | exact w_IntS _ | exact w_IntSS _ | exact w_SlotS _ | exact w_BoolS _ | exact w_InsS _ | exact w_GuestS _ | exact w_KeptS _ | exact w_MonS _ | exact w_EntryS _ | exact w_BareS _)) ?_)) ?_) rfl ?_
      simp only [nrm, Nat.reduceBEq, Nat.reduceBNe, reduceIte]
      refine hK _ ?_
      clear hK K
      refine TL.opK rfl fun K hK => ?_
      refine OpT.build1 rfl rfl (z := 0) rfl rfl rfl rfl rfl (by decide) (by decide) (by simp [St.adopt, cellsV, elD, cellD, St.renew, St.store1, St.storeAll, St.cellAt, St.isMem, St.root, St.wrote, St.kill, St.setRoot, TS.kill, TV.kill, C.kill, Rt.kill, hitR, hitP, shapeOf, setRow, setAt, rowAt, D.row, D.reRow, List.isPrefixOf]; rfl) ?_
      simp only [nrm, Nat.reduceBEq, Nat.reduceBNe, reduceIte]
      refine hK _ ?_
      clear hK K
      refine TL.opK rfl fun K hK => ?_
      refine OpT.appendOE rfl rfl rfl rfl rfl rfl (by decide) (by simp [D.row]) rfl rfl rfl rfl rfl rfl rfl (by simp; omega) ?_
      simp only [nrm, Nat.reduceBEq, Nat.reduceBNe, reduceIte]
      refine hK _ ?_
      clear hK K
      refine TL.vE (Val.assign 1 rfl rfl) ?_
      refine TL.nil ?_
      show TC _ _ _ _ _ _
      refine TC.region ?_
      refine TL.vE (Val.move 1 rfl rfl) ?_
      refine TL.vE (Val.addO rfl rfl rfl) ?_
      refine TL.vE (Val.assign 1 rfl rfl) ?_
      refine TL.nil ?_
      first | refine Seq.normal ⟨_, ?_, i + 1, ?_, rfl, ?_⟩ | refine Seq.normal (Q := fun _ _ => True) ⟨_, ?_, i + 1, ?_, rfl, ?_⟩
      · omega
      · omega
      · exact Can.name 19 3 (by simp only [St.name, nameS, nameV, nameC, nameR, List.map_cons, List.map_nil, Nat.reduceEqDiff, if_true, if_false, ne_eq, not_true, not_false, and_true, and_false, true_and, false_and, reduceIte]; rfl) (Can.too (.cons rfl (by simp [elD, cellD, List.take_add_one, hy]) .nil))
    have hk9 := hb
    refine TC.exit ?_
    show TC _ _ _ _ _ _
    refine TC.seq ?_
    have hie : xs.length ≤ i := by simp at hb; omega
    rw [List.take_of_length_le hie]
    refine TC.region ?_
    refine TL.vE (Val.move 1 rfl rfl) ?_
    refine TL.vE (Val.assign 1 rfl rfl) ?_
    refine TL.nil ?_
    show TC _ _ _ _ _ _
    refine TC.ret ?_
    exact ⟨.inr rfl, [_], [_], _, rfl, by decide, rfl, by simp [refV, refC, valC, C.kill, hitR], rfl, rfl⟩

theorem spec_l21Mon_f (x : VMon) (hx : SmMon x) : Fun Tryz.prog 81 [A (rMon x)] (RG [.a (rMon x)]) := by
  refine Fun.of Tryz.func81 rfl (by simp [Tryz.ntmps81]) fun w g0 => ?_
  simp only [Tryz.ntmps81, List.length_cons, List.length_nil, Nat.reduceAdd, Nat.reduceSub, List.replicate, List.cons_append, List.nil_append]
  have hlen : x.Tables.length ≤ 1048576 := hx.2.2.2.2.2.1
  refine TC.seq ?_
  refine TC.region ?_
  refine TL.opK rfl fun K hK => ?_
  first | refine OpT.box rfl rfl (z := 1) rfl (by simp) ?_ | refine OpT.boxAgg rfl rfl rfl ?_
  simp only [nrm, Nat.reduceBEq, Nat.reduceBNe, reduceIte]
  refine hK _ ?_
  clear hK K
  refine TL.opK rfl fun K hK => ?_
  refine OpT.alloc rfl rfl rfl rfl rfl rfl ?_
  simp only [nrm, Nat.reduceBEq, Nat.reduceBNe, reduceIte]
  refine hK _ ?_
  clear hK K
  refine TL.nil ?_
  show TC _ _ _ _ _ _
  refine TC.seq ?_
  refine TC.region ?_
  refine TL.opK rfl fun K hK => ?_
  refine OpT.build0 (sz := 2) rfl rfl rfl rfl ?_
  simp only [nrm, Nat.reduceBEq, Nat.reduceBNe, reduceIte]
  refine hK _ ?_
  clear hK K
  refine TL.fld ?_
  refine TL.ld ?_
  refine TL.opK rfl fun K hK => ?_
  refine OpT.appendE rfl rfl rfl (sz := 2) rfl rfl rfl (by intro d hd; obtain ⟨z, _, rfl⟩ := List.mem_map.1 hd; intro c hc; simp only [D.row, rSlot, rIns, List.mem_cons, List.not_mem_nil, or_false] at hc; first | exact ⟨_, hc⟩ | (rcases hc with hc | hc <;> exact ⟨_, hc⟩)) rfl rfl rfl rfl rfl rfl rfl (by have h9 : x.Outer.length ≤ 1048576 := hx.1; simp; omega) ?_
  simp only [nrm, Nat.reduceBEq, Nat.reduceBNe, reduceIte]
  refine hK _ ?_
  clear hK K
  refine TL.fld ?_
  refine TL.opK rfl fun K hK => ?_
  refine OpT.store (z := 1) rfl rfl rfl rfl rfl rfl (by simp [St.store1, St.storeAll, St.cellAt, St.isMem, St.root, St.wrote, St.kill, St.setRoot, TS.kill, TV.kill, C.kill, Rt.kill, hitR, hitP, shapeOf, setRow, setAt, rowAt, D.row, D.reRow, List.isPrefixOf]; rfl) ?_ -- None
  simp only [nrm, Nat.reduceBEq, Nat.reduceBNe, reduceIte]
  refine hK _ ?_
  clear hK K
  refine TL.nil ?_
  show TC _ _ _ _ _ _
  refine TC.seq ?_
  refine TC.region ?_
  refine TL.fld ?_
  refine TL.ld ?_
  refine TL.opK rfl fun K hK => ?_
  refine OpT.callL rfl rfl rfl rfl rfl rfl ((spec_l04Copy_f x.Out hx.2.1).k) (by repeat first | exact .nil | refine Snaps.cons (.ro _) ?_ | refine Snaps.cons (.aggRo rfl) ?_ | refine Snaps.cons (.cptr _) ?_ | refine Snaps.cons (.fn _) ?_ | refine Snaps.cons (.ownRef rfl (by first | assumption | exact w_IntS _ | exact w_IntSS _ | exact w_SlotS _ | exact w_BoolS _ | exact w_InsS _ | exact w_GuestS _ | exact w_KeptS _ | exact w_MonS _ | exact w_EntryS _ | exact w_BareS _)) ?_ | refine Snaps.cons (.aggR (by repeat first | exact .nil | refine SnapCs.cons (.ro _) ?_ | refine SnapCs.cons (.ref rfl (by first | assumption | exact w_IntS _ | exact w_IntSS _ | exact w_SlotS _ | exact w_BoolS _ | exact w_InsS _ | exact w_GuestS _ | exact w_KeptS _ | exact w_MonS _ | exact w_EntryS _ | exact w_BareS _)) ?_)) ?_) ?_
  simp only [nrm, Nat.reduceBEq, Nat.reduceBNe, reduceIte]
  refine hK _ ?_
  clear hK K
  refine TL.fld ?_
  refine TL.opK rfl fun K hK => ?_
  refine OpT.store (z := 1) rfl rfl rfl rfl rfl rfl (by simp [St.store1, St.storeAll, St.cellAt, St.isMem, St.root, St.wrote, St.kill, St.setRoot, TS.kill, TV.kill, C.kill, Rt.kill, hitR, hitP, shapeOf, setRow, setAt, rowAt, D.row, D.reRow, List.isPrefixOf]; rfl) ?_ -- None
  simp only [nrm, Nat.reduceBEq, Nat.reduceBNe, reduceIte]
  refine hK _ ?_
  clear hK K
  refine TL.nil ?_
  show TC _ _ _ _ _ _
  refine TC.seq ?_
  refine TC.region ?_
  refine TL.opK rfl fun K hK => ?_
  refine OpT.build0 (sz := 1) rfl rfl rfl rfl ?_
  simp only [nrm, Nat.reduceBEq, Nat.reduceBNe, reduceIte]
  refine hK _ ?_
  clear hK K
  refine TL.fld ?_
  refine TL.ld ?_
  refine TL.opK rfl fun K hK => ?_
  refine OpT.appendE rfl rfl rfl (sz := 1) rfl rfl rfl (by intro d hd; obtain ⟨z, _, rfl⟩ := List.mem_map.1 hd; intro c hc; simp only [D.row, rSlot, rIns, List.mem_cons, List.not_mem_nil, or_false] at hc; first | exact ⟨_, hc⟩ | (rcases hc with hc | hc <;> exact ⟨_, hc⟩)) rfl rfl rfl rfl rfl rfl rfl (by have h9 : x.Dirty.length ≤ 1048576 := hx.2.2.1; simp; omega) ?_
  simp only [nrm, Nat.reduceBEq, Nat.reduceBNe, reduceIte]
  refine hK _ ?_
  clear hK K
  refine TL.fld ?_
  refine TL.opK rfl fun K hK => ?_
  refine OpT.store (z := 1) rfl rfl rfl rfl rfl rfl (by simp [St.store1, St.storeAll, St.cellAt, St.isMem, St.root, St.wrote, St.kill, St.setRoot, TS.kill, TV.kill, C.kill, Rt.kill, hitR, hitP, shapeOf, setRow, setAt, rowAt, D.row, D.reRow, List.isPrefixOf]; rfl) ?_ -- None
  simp only [nrm, Nat.reduceBEq, Nat.reduceBNe, reduceIte]
  refine hK _ ?_
  clear hK K
  refine TL.nil ?_
  show TC _ _ _ _ _ _
  refine TC.seq ?_
  refine TC.region ?_
  refine TL.fld ?_
  refine TL.ld ?_
  refine TL.opK rfl fun K hK => ?_
  refine OpT.callL rfl rfl rfl rfl rfl rfl ((spec_l17Guests_f x.Guests hx.2.2.2.1).k) (by repeat first | exact .nil | refine Snaps.cons (.ro _) ?_ | refine Snaps.cons (.aggRo rfl) ?_ | refine Snaps.cons (.cptr _) ?_ | refine Snaps.cons (.fn _) ?_ | refine Snaps.cons (.ownRef rfl (by first | assumption | exact w_IntS _ | exact w_IntSS _ | exact w_SlotS _ | exact w_BoolS _ | exact w_InsS _ | exact w_GuestS _ | exact w_KeptS _ | exact w_MonS _ | exact w_EntryS _ | exact w_BareS _)) ?_ | refine Snaps.cons (.aggR (by repeat first | exact .nil | refine SnapCs.cons (.ro _) ?_ | refine SnapCs.cons (.ref rfl (by first | assumption | exact w_IntS _ | exact w_IntSS _ | exact w_SlotS _ | exact w_BoolS _ | exact w_InsS _ | exact w_GuestS _ | exact w_KeptS _ | exact w_MonS _ | exact w_EntryS _ | exact w_BareS _)) ?_)) ?_) ?_
  simp only [nrm, Nat.reduceBEq, Nat.reduceBNe, reduceIte]
  refine hK _ ?_
  clear hK K
  refine TL.fld ?_
  refine TL.opK rfl fun K hK => ?_
  refine OpT.store (z := 1) rfl rfl rfl rfl rfl rfl (by simp [St.store1, St.storeAll, St.cellAt, St.isMem, St.root, St.wrote, St.kill, St.setRoot, TS.kill, TV.kill, C.kill, Rt.kill, hitR, hitP, shapeOf, setRow, setAt, rowAt, D.row, D.reRow, List.isPrefixOf]; rfl) ?_ -- None
  simp only [nrm, Nat.reduceBEq, Nat.reduceBNe, reduceIte]
  refine hK _ ?_
  clear hK K
  refine TL.nil ?_
  show TC _ _ _ _ _ _
  refine TC.seq ?_
  refine TC.region ?_
  refine TL.opK rfl fun K hK => ?_
  refine OpT.build0 (sz := 1) rfl rfl rfl rfl ?_
  simp only [nrm, Nat.reduceBEq, Nat.reduceBNe, reduceIte]
  refine hK _ ?_
  clear hK K
  refine TL.fld ?_
  refine TL.ld ?_
  refine TL.opK rfl fun K hK => ?_
  refine OpT.appendE rfl rfl rfl (sz := 1) rfl rfl rfl (by intro d hd; obtain ⟨z, _, rfl⟩ := List.mem_map.1 hd; intro c hc; simp only [D.row, rSlot, rIns, List.mem_cons, List.not_mem_nil, or_false] at hc; first | exact ⟨_, hc⟩ | (rcases hc with hc | hc <;> exact ⟨_, hc⟩)) rfl rfl rfl rfl rfl rfl rfl (by have h9 : x.Outs.length ≤ 1048576 := hx.2.2.2.2.1; simp; omega) ?_
  simp only [nrm, Nat.reduceBEq, Nat.reduceBNe, reduceIte]
  refine hK _ ?_
  clear hK K
  refine TL.fld ?_
  refine TL.opK rfl fun K hK => ?_
  refine OpT.store (z := 1) rfl rfl rfl rfl rfl rfl (by simp [St.store1, St.storeAll, St.cellAt, St.isMem, St.root, St.wrote, St.kill, St.setRoot, TS.kill, TV.kill, C.kill, Rt.kill, hitR, hitP, shapeOf, setRow, setAt, rowAt, D.row, D.reRow, List.isPrefixOf]; rfl) ?_ -- None
  simp only [nrm, Nat.reduceBEq, Nat.reduceBNe, reduceIte]
  refine hK _ ?_
  clear hK K
  refine TL.nil ?_
  show TC _ _ _ _ _ _
  refine TC.seq ?_
  refine TC.region ?_
  refine TL.opK rfl fun K hK => ?_
  refine OpT.build0 (sz := 2) rfl rfl rfl rfl ?_
  simp only [nrm, Nat.reduceBEq, Nat.reduceBNe, reduceIte]
  refine hK _ ?_
  clear hK K
  refine TL.vE (Val.assign 1 rfl rfl) ?_
  refine TL.nil ?_
  show TC _ _ _ _ _ _
  refine TC.seq ?_
  refine TC.seq ?_
  refine TC.region ?_
  refine TL.vE (Val.assign 1 rfl rfl) ?_
  refine TL.nil ?_
  show TC _ _ _ _ _ _
  refine TC.block ?_
  refine TC.loop (fun μ st => ∃ i : Nat, (i ≤ x.Tables.length) ∧ μ = x.Tables.length - i ∧ Can st ⟨[.one .dead, .one (.ptr ⟨1, [], 0⟩), .one (.ptr ⟨2, [], 0⟩), .one (.c (.ref ⟨3, [], 0⟩)), I i, .one .dead, .one .dead, .one .dead, .one .dead, .one .dead, .one .dead, .one .dead, .one .dead, .one .dead, .one .dead, .one .dead, .one .dead, .one .dead, .one .dead, .one .dead, .one .dead, .one .dead, .one .dead, .one .dead, .one .dead, .one .dead, .one .dead, .one .dead, .one .dead, .one .dead, .one .dead, .one .dead, .one .dead, .one .dead, .one .dead, .one .dead, .one .dead, .one .dead, .one .dead, .one .dead, .one .dead, .one .dead, .one .dead, .one .dead, .one .dead, .one .dead, .one .dead, .one .dead], [(3, ⟨false, [.own (.sl 2 ((x.Tables.take i).map dKept))]⟩), (1, ⟨true, [.own (.sl 2 (x.Outer.map dSlot)), .own (.sl 1 (x.Out.map dIntS)), .own (.sl 1 (x.Dirty.map dBool)), .own (.sl 15 (x.Guests.map dGuest)), .own (.sl 1 (x.Outs.map dInt)), .own (.v (.int .i64 x.Pending)), .own (.v (.int .i64 x.Traps)), .ro (.sl 2 (x.Tables.map dKept)), .own (.v (.int .i64 x.Own))]⟩), (2, ⟨true, [.own (.sl 2 []), .own (.sl 1 []), .own (.sl 1 []), .own (.sl 15 []), .own (.sl 1 []), .own (.v (.int .i64 0)), .own (.v (.int .i64 0)), .own (.sl 2 []), .own (.v (.int .i64 0))]⟩)]⟩) (x.Tables.length) ?_ fun μ st hI => ?_
  · refine ⟨0, by simp, by simp, ?_⟩
    exact Can.name 28 3 (by simp only [St.name, nameS, nameV, nameC, nameR, List.map_cons, List.map_nil, Nat.reduceEqDiff, if_true, if_false, ne_eq, not_true, not_false, and_true, and_false, true_and, false_and, reduceIte]; rfl) (Can.too (.cons rfl (by simp) (.cons rfl rfl (.cons rfl rfl .nil))))
  · obtain ⟨i, hyp, rfl, hcan⟩ := hI
    refine TC.can hcan ?_
    clear hcan
    refine TC.seq ?_
    refine TC.seq ?_
    refine TC.region ?_
    refine TL.vE (Val.move 1 rfl rfl) ?_
    refine TL.fld ?_
    refine TL.ld ?_
    refine TL.vE (by first | exact Val.len rfl rfl rfl rfl | exact Val.lenS rfl rfl rfl) ?_
    refine TL.vE (Val.lss rfl rfl rfl) ?_
    refine TL.nil ?_
    show TC _ _ _ _ _ _
    refine TC.cond rfl (fun hb => ?_) (fun hb => ?_)
    · have hk33 := hb
      refine TC.skip ?_
      show TC _ _ _ _ _ _
      refine TC.seq ?_
      refine TC.block ?_
      have hi : i < x.Tables.length := by simpa using hb
      obtain ⟨y, hy⟩ := at_of (xs := x.Tables) (k := i) hi
      have hy9 : SmKept y := hx.2.2.2.2.2.2 y (List.mem_of_getElem? hy)
      refine TC.region ?_
      refine TL.vE (Val.move 1 rfl rfl) ?_
      refine TL.fld ?_
      refine TL.ld ?_
      refine TL.vE (Val.move 1 rfl rfl) ?_
      refine TL.vE (by exact Val.indexC (d := dKept y) rfl rfl rfl rfl rfl (by omega) (by simp [hy])) ?_
      refine TL.valE rfl (by first | exact Val.loadCAgg (n := 2) rfl rfl rfl rfl (Nat.le_of_ble_eq_true rfl) | exact Val.loadAgg (n := 2) rfl rfl rfl rfl (by simp [St.cellsAt, St.cellAt, St.root, valC]; rfl) rfl | exact Val.loadAgg (n := 2) rfl rfl rfl rfl rfl rfl) (by simp only [St.put, List.set_cons_succ, List.set_cons_zero, valC, dKept, rKept, D.row, List.take_succ_cons, List.take_zero, List.map_cons, List.map_nil]; rfl) ?_
      refine TL.opK rfl fun K hK => ?_
      refine OpT.callG rfl rfl rfl rfl rfl rfl ((spec_l07Copy_f y hy9).k) (by repeat first | exact .nil | refine Snaps.cons (.ro _) ?_ | refine Snaps.cons (.aggRo rfl) ?_ | refine Snaps.cons (.cptr _) ?_ | refine Snaps.cons (.fn _) ?_ | refine Snaps.cons (.ownRef rfl (by first | assumption | exact w_IntS _ | exact w_IntSS _ | exact w_SlotS _ | exact w_BoolS _ | exact w_InsS _ | exact w_GuestS _ | exact w_KeptS _ | exact w_MonS _ | exact w_EntryS _ | exact w_BareS _)) ?_ | refine Snaps.cons (.aggR (by repeat first | exact .nil | refine SnapCs.cons (.ro _) ?_ | refine SnapCs.cons (.ref rfl (by first | assumption | exact w_IntS _ | exact w_IntSS _ | exact w_SlotS _ | exact w_BoolS _ | exact w_InsS _ | exact w_GuestS _ | exact w_KeptS _ | exact w_MonS _ | exact w_EntryS _ | exact w_BareS _)) ?_)) ?_) rfl ?_
      simp only [nrm, Nat.reduceBEq, Nat.reduceBNe, reduceIte]
      refine hK _ ?_
      clear hK K
      refine TL.opK rfl fun K hK => ?_
      refine OpT.build1 rfl rfl (z := 0) rfl rfl rfl rfl rfl (by decide) (by decide) (by simp [St.adopt, cellsV, elD, cellD, St.renew, St.store1, St.storeAll, St.cellAt, St.isMem, St.root, St.wrote, St.kill, St.setRoot, TS.kill, TV.kill, C.kill, Rt.kill, hitR, hitP, shapeOf, setRow, setAt, rowAt, D.row, D.reRow, List.isPrefixOf]; rfl) ?_
      simp only [nrm, Nat.reduceBEq, Nat.reduceBNe, reduceIte]
      refine hK _ ?_
      clear hK K
      refine TL.opK rfl fun K hK => ?_
      refine OpT.appendOE rfl rfl rfl rfl rfl rfl (by decide) (by simp [D.row]) rfl rfl rfl rfl rfl rfl rfl (by simp; omega) ?_
      simp only [nrm, Nat.reduceBEq, Nat.reduceBNe, reduceIte]
      refine hK _ ?_
      clear hK K
      refine TL.vE (Val.assign 1 rfl rfl) ?_
      refine TL.nil ?_
      show TC _ _ _ _ _ _
      refine TC.region ?_
      refine TL.vE (Val.move 1 rfl rfl) ?_
      refine TL.vE (Val.addO rfl rfl rfl) ?_
      refine TL.vE (Val.assign 1 rfl rfl) ?_
      refine TL.nil ?_
      first | refine Seq.normal ⟨_, ?_, i + 1, ?_, rfl, ?_⟩ | refine Seq.normal (Q := fun _ _ => True) ⟨_, ?_, i + 1, ?_, rfl, ?_⟩
      · omega
      · omega
      · exact Can.name 44 3 (by simp only [St.name, nameS, nameV, nameC, nameR, List.map_cons, List.map_nil, Nat.reduceEqDiff, if_true, if_false, ne_eq, not_true, not_false, and_true, and_false, true_and, false_and, reduceIte]; rfl) (Can.too (.cons rfl (by simp [elD, cellD, List.take_add_one, hy]) (.cons rfl rfl (.cons rfl rfl .nil))))
    have hk33 := hb
    refine TC.exit ?_
    show TC _ _ _ _ _ _
    refine TC.seq ?_
    have hie : x.Tables.length ≤ i := by simp at hb; omega
    rw [List.take_of_length_le hie]
    refine TC.region ?_
    refine TL.vE (Val.move 1 rfl rfl) ?_
    refine TL.fld ?_
    refine TL.opK rfl fun K hK => ?_
    refine OpT.store (z := 1) rfl rfl rfl rfl rfl rfl (by simp [St.store1, St.storeAll, St.cellAt, St.isMem, St.root, St.wrote, St.kill, St.setRoot, TS.kill, TV.kill, C.kill, Rt.kill, hitR, hitP, shapeOf, setRow, setAt, rowAt, D.row, D.reRow, List.isPrefixOf]; rfl) ?_ -- None
    simp only [nrm, Nat.reduceBEq, Nat.reduceBNe, reduceIte]
    refine hK _ ?_
    clear hK K
    refine TL.nil ?_
    show TC _ _ _ _ _ _
    refine TC.seq ?_
    refine TC.region ?_
    refine TL.valE rfl (by first | exact Val.loadCAgg (n := 9) rfl rfl rfl rfl (Nat.le_of_ble_eq_true rfl) | exact Val.loadAgg (n := 9) rfl rfl rfl rfl (by simp [St.cellsAt, St.cellAt, St.root, valC]; rfl) rfl | exact Val.loadAgg (n := 9) rfl rfl rfl rfl rfl rfl) (by simp only [St.put, List.set_cons_succ, List.set_cons_zero, valC, dMon, rMon, D.row, List.take_succ_cons, List.take_zero, List.map_cons, List.map_nil]; rfl) ?_
    refine TL.opK rfl fun K hK => ?_
    refine OpT.storeAgg rfl rfl rfl rfl rfl rfl (by simp [St.store1, St.storeAll, St.cellAt, St.isMem, St.root, St.wrote, St.kill, St.setRoot, TS.kill, TV.kill, C.kill, Rt.kill, hitR, hitP, shapeOf, setRow, setAt, rowAt, D.row, D.reRow, List.isPrefixOf]; rfl) ?_ -- None
    simp only [nrm, Nat.reduceBEq, Nat.reduceBNe, reduceIte]
    refine hK _ ?_
    clear hK K
    refine TL.nil ?_
    show TC _ _ _ _ _ _
    refine TC.ret ?_
    exact ⟨.inr rfl, [_], [_], _, rfl, by decide, rfl, by simp [refV, refC, valC, C.kill, hitR], rfl, rfl⟩

theorem spec_MonAt_f (x : VHost) (m : Int) (hx : SmHost x) : Fun Tryz.prog 99 [A (rHost x), I m] (RMon (monAt x m)) := by
  refine Fun.of Tryz.func99 rfl (by simp [Tryz.ntmps99]) fun w g0 => ?_
  simp only [Tryz.ntmps99, List.length_cons, List.length_nil, Nat.reduceAdd, Nat.reduceSub, List.replicate, List.cons_append, List.nil_append]
  have hlen : x.Mons.length ≤ 1048576 := hx.2.1.1
  refine TC.seq ?_
  refine TC.region ?_
  refine TL.opK rfl fun K hK => ?_
  first | refine OpT.box rfl rfl (z := 1) rfl (by simp) ?_ | refine OpT.boxAgg rfl rfl rfl ?_
  simp only [nrm, Nat.reduceBEq, Nat.reduceBNe, reduceIte]
  refine hK _ ?_
  clear hK K
  refine TL.opK rfl fun K hK => ?_
  refine OpT.alloc rfl rfl rfl rfl rfl rfl ?_
  simp only [nrm, Nat.reduceBEq, Nat.reduceBNe, reduceIte]
  refine hK _ ?_
  clear hK K
  refine TL.vE (Val.assign 1 rfl rfl) ?_
  refine TL.nil ?_
  show TC _ _ _ _ _ _
  refine TC.seq ?_
  refine TC.seq ?_
  refine TC.region ?_
  refine TL.vE (Val.move 1 rfl rfl) ?_
  refine TL.fld ?_
  refine TL.ld ?_
  refine TL.vE (by first | exact Val.len rfl rfl rfl rfl | exact Val.lenS rfl rfl rfl) ?_
  refine TL.vE (Val.sub rfl rfl rfl (by first | omega | (simp only [List.length_map]; omega)) (by first | omega | (simp only [List.length_map]; omega))) ?_
  refine TL.callF (yes_none rfl) rfl rfl rfl rfl rfl rfl ((spec_l01In_f m 0 (((x.Mons.map dMon).length : Int) - 1)).k) (by repeat first | exact .nil | refine Snaps.cons (.ro _) ?_ | refine Snaps.cons (.aggRo rfl) ?_ | refine Snaps.cons (.cptr _) ?_ | refine Snaps.cons (.fn _) ?_ | refine Snaps.cons (.ownRef rfl (by first | assumption | exact w_IntS _ | exact w_IntSS _ | exact w_SlotS _ | exact w_BoolS _ | exact w_InsS _ | exact w_GuestS _ | exact w_KeptS _ | exact w_MonS _ | exact w_EntryS _ | exact w_BareS _)) ?_ | refine Snaps.cons (.aggR (by repeat first | exact .nil | refine SnapCs.cons (.ro _) ?_ | refine SnapCs.cons (.ref rfl (by first | assumption | exact w_IntS _ | exact w_IntSS _ | exact w_SlotS _ | exact w_BoolS _ | exact w_InsS _ | exact w_GuestS _ | exact w_KeptS _ | exact w_MonS _ | exact w_EntryS _ | exact w_BareS _)) ?_)) ?_) rfl (by simp only [nput]; rfl) ?_
  refine TL.vE (Val.not rfl rfl) ?_
  refine TL.nil ?_
  show TC _ _ _ _ _ _
  refine TC.cond rfl (fun hb => ?_) (fun hb => ?_)
  · have hk12 := hb
    refine TC.seq ?_
    have h0 : monAt x m = none := monAt_none (by simp [inR] at hb; omega)
    refine TC.region ?_
    refine TL.opK rfl fun K hK => ?_
    refine OpT.buildN (parts := []) (place := [(0, 1), (1, 1), (2, 1), (3, 1), (4, 1), (5, 1), (6, 1), (7, 1), (8, 1)]) (row' := [.sl 2 [], .sl 1 [], .sl 1 [], .sl 15 [], .sl 1 [], .v (.int .i64 0), .v (.int .i64 0), .sl 2 [], .v (.int .i64 0)]) rfl rfl rfl rfl rfl rfl rfl rfl rfl rfl rfl (by simp [fillC, refsD, refD, nextD]; rfl) ?_
    simp only [nrm, Nat.reduceBEq, Nat.reduceBNe, reduceIte]
    refine hK _ ?_
    clear hK K
    refine TL.opK rfl fun K hK => ?_
    refine OpT.storeAgg rfl rfl rfl rfl rfl rfl (by simp [St.store1, St.storeAll, St.cellAt, St.isMem, St.root, St.wrote, St.kill, St.setRoot, TS.kill, TV.kill, C.kill, Rt.kill, hitR, hitP, shapeOf, setRow, setAt, rowAt, D.row, D.reRow, List.isPrefixOf]; rfl) ?_ -- None
    simp only [nrm, Nat.reduceBEq, Nat.reduceBNe, reduceIte]
    refine hK _ ?_
    clear hK K
    refine TL.vE (Val.assign 1 rfl rfl) ?_
    refine TL.nil ?_
    show TC _ _ _ _ _ _
    refine TC.ret ?_
    exact ⟨.inr rfl, [_, _], [_, _], _, rfl, by decide, rfl, by simp [refV, refC, valC, C.kill, hitR], rfl, (by simp only [RMon, h0]; rfl)⟩
  have hk12 := hb
  refine TC.skip ?_
  show TC _ _ _ _ _ _
  refine TC.seq ?_
  have hin : 0 ≤ m ∧ m < x.Mons.length := by simp [inR] at hb; omega
  obtain ⟨y, hy⟩ := at_of (xs := x.Mons) (k := m.toNat) (by omega)
  have h0 := monAt_some hin.1 hy
  have hy9 : SmMon y := hx.2.1.2 y (List.mem_of_getElem? hy)
  refine TC.region ?_
  refine TL.fld ?_
  refine TL.ld ?_
  refine TL.vE (Val.move 1 rfl rfl) ?_
  refine TL.vE (by exact Val.indexC (d := dMon y) rfl rfl rfl rfl rfl (by omega) (by simp [hy])) ?_
  refine TL.valE rfl (by first | exact Val.loadCAgg (n := 9) rfl rfl rfl rfl (Nat.le_of_ble_eq_true rfl) | exact Val.loadAgg (n := 9) rfl rfl rfl rfl (by simp [St.cellsAt, St.cellAt, St.root, valC]; rfl) rfl | exact Val.loadAgg (n := 9) rfl rfl rfl rfl rfl rfl) (by simp only [St.put, List.set_cons_succ, List.set_cons_zero, valC, dMon, rMon, D.row, List.take_succ_cons, List.take_zero, List.map_cons, List.map_nil]; rfl) ?_
  refine TL.opK rfl fun K hK => ?_
  refine OpT.callG rfl rfl rfl rfl rfl rfl ((spec_l21Mon_f y hy9).k) (by repeat first | exact .nil | refine Snaps.cons (.ro _) ?_ | refine Snaps.cons (.aggRo rfl) ?_ | refine Snaps.cons (.cptr _) ?_ | refine Snaps.cons (.fn _) ?_ | refine Snaps.cons (.ownRef rfl (by first | assumption | exact w_IntS _ | exact w_IntSS _ | exact w_SlotS _ | exact w_BoolS _ | exact w_InsS _ | exact w_GuestS _ | exact w_KeptS _ | exact w_MonS _ | exact w_EntryS _ | exact w_BareS _)) ?_ | refine Snaps.cons (.aggR (by repeat first | exact .nil | refine SnapCs.cons (.ro _) ?_ | refine SnapCs.cons (.ref rfl (by first | assumption | exact w_IntS _ | exact w_IntSS _ | exact w_SlotS _ | exact w_BoolS _ | exact w_InsS _ | exact w_GuestS _ | exact w_KeptS _ | exact w_MonS _ | exact w_EntryS _ | exact w_BareS _)) ?_)) ?_) rfl ?_
  simp only [nrm, Nat.reduceBEq, Nat.reduceBNe, reduceIte]
  refine hK _ ?_
  clear hK K
  refine TL.opK rfl fun K hK => ?_
  refine OpT.storeAgg rfl rfl rfl rfl rfl rfl (by simp [St.store1, St.storeAll, St.cellAt, St.isMem, St.root, St.wrote, St.kill, St.setRoot, TS.kill, TV.kill, C.kill, Rt.kill, hitR, hitP, shapeOf, setRow, setAt, rowAt, D.row, D.reRow, List.isPrefixOf]; rfl) ?_ -- None
  simp only [nrm, Nat.reduceBEq, Nat.reduceBNe, reduceIte]
  refine hK _ ?_
  clear hK K
  refine TL.vE (Val.assign 1 rfl rfl) ?_
  refine TL.nil ?_
  show TC _ _ _ _ _ _
  refine TC.ret ?_
  exact ⟨.inr rfl, [_, _], [_, _], _, rfl, by decide, rfl, by simp [refV, refC, valC, C.kill, hitR], rfl, (by simp only [RMon, h0]; rfl)⟩
end Go.Proofs.YtldollgpolklpaaGreat.T

