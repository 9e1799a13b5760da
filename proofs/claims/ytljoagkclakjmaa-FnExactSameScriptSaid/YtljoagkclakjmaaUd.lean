/- FnExactSameScript's own walk. PRINTED by gen.py out of spec_script3.py. -/
import Derived.Test.YtljoagkclakjmaaUc
namespace Go.Proofs.Ytljoagkclakjmaa.T
open Go
set_option linter.unusedVariables false
set_option linter.unusedSimpArgs false
set_option maxRecDepth 100000

-- loop.example/g00975/spec.SameScript: params ['impl.Script = loop.example/g00975/impl.Script', 'impl.Script = loop.example/g00975/impl.Script'] results ['bool'] ('arr', [('app', 'Go.ResultVar.tmp', ['4'])])
theorem spec_SameScript_f (x y : VScript) : Fun Try.prog 31 [A (rScript x), A (rScript y)] (RV (.bool (decide (x = y)))) := by
  refine Fun.of Try.func31 rfl (by simp [Try.ntmps31]) fun w g0 => ?_
  simp only [Try.ntmps31, List.length_cons, List.length_nil, Nat.reduceAdd, Nat.reduceSub, List.replicate, List.cons_append, List.nil_append]
  refine TC.seq ?_
  -- region 0
  refine TC.region ?_
  refine TL.opK rfl fun K hK => ?_
  first | refine OpT.box rfl rfl (z := 1) rfl (by simp) ?_ | refine OpT.boxAgg rfl rfl rfl ?_ -- 2
  simp only [St.fresh, St.kill, St.setRoot, St.put, St.renew, TS.kill, TV.kill, C.kill, Rt.kill, boxC, List.map_cons, List.map_nil, List.filter_cons, List.filter_nil, List.set_cons_succ, List.set_cons_zero, List.contains_cons, List.contains_nil, Nat.reduceBEq, Nat.reduceBNe, St.wrote, hitR, hitP, shapeOf, List.isPrefixOf, List.append_eq, Bool.and_true, Bool.true_and, Bool.and_false, Bool.false_and, List.nil_append, List.cons_append, beq_self_eq_true, bne_self_eq_false, Bool.or_false, Bool.or_true, Bool.not_true, Bool.not_false, Bool.false_eq_true, if_true, if_false, reduceIte, resT, valsD, refsD, refD, nextD, nextsD, cellsD, isSl, List.append_nil]
  refine hK _ ?_
  clear hK K
  refine TL.opK rfl fun K hK => ?_
  first | refine OpT.box rfl rfl (z := 1) rfl (by simp) ?_ | refine OpT.boxAgg rfl rfl rfl ?_ -- 3
  simp only [St.fresh, St.kill, St.setRoot, St.put, St.renew, TS.kill, TV.kill, C.kill, Rt.kill, boxC, List.map_cons, List.map_nil, List.filter_cons, List.filter_nil, List.set_cons_succ, List.set_cons_zero, List.contains_cons, List.contains_nil, Nat.reduceBEq, Nat.reduceBNe, St.wrote, hitR, hitP, shapeOf, List.isPrefixOf, List.append_eq, Bool.and_true, Bool.true_and, Bool.and_false, Bool.false_and, List.nil_append, List.cons_append, beq_self_eq_true, bne_self_eq_false, Bool.or_false, Bool.or_true, Bool.not_true, Bool.not_false, Bool.false_eq_true, if_true, if_false, reduceIte, resT, valsD, refsD, refD, nextD, nextsD, cellsD, isSl, List.append_nil]
  refine hK _ ?_
  clear hK K
  refine TL.valE rfl (Val.assign 1 rfl rfl) (by simp only [St.put, List.set_cons_succ, List.set_cons_zero]; rfl) ?_
  refine TL.nil ?_
  show TC _ _ _ _ _ _
  refine TC.seq ?_
  refine TC.seq ?_
  -- region 1
  refine TC.region ?_
  refine TL.valE rfl (by first | exact Val.field rfl rfl rfl | exact Val.fieldC rfl rfl rfl) (by simp only [St.put, List.set_cons_succ, List.set_cons_zero]; rfl) ?_
  refine TL.valE rfl (by first | exact Val.load rfl rfl rfl rfl rfl | exact Val.loadC rfl rfl rfl | exact Val.loadAgg rfl rfl rfl rfl rfl rfl | exact Val.loadCAgg rfl rfl rfl rfl (Nat.le_of_ble_eq_true rfl)) (by simp only [St.put, List.set_cons_succ, List.set_cons_zero]; rfl) ?_
  refine TL.valE rfl (by first | exact Val.len rfl rfl rfl rfl | exact Val.lenS rfl rfl rfl) (by simp only [St.put, List.set_cons_succ, List.set_cons_zero]; rfl) ?_
  refine TL.valE rfl (by first | exact Val.field rfl rfl rfl | exact Val.fieldC rfl rfl rfl) (by simp only [St.put, List.set_cons_succ, List.set_cons_zero]; rfl) ?_
  refine TL.valE rfl (by first | exact Val.load rfl rfl rfl rfl rfl | exact Val.loadC rfl rfl rfl | exact Val.loadAgg rfl rfl rfl rfl rfl rfl | exact Val.loadCAgg rfl rfl rfl rfl (Nat.le_of_ble_eq_true rfl)) (by simp only [St.put, List.set_cons_succ, List.set_cons_zero]; rfl) ?_
  refine TL.valE rfl (by first | exact Val.len rfl rfl rfl rfl | exact Val.lenS rfl rfl rfl) (by simp only [St.put, List.set_cons_succ, List.set_cons_zero]; rfl) ?_
  refine TL.valE rfl (Val.neq rfl rfl rfl) (by simp only [St.put, List.set_cons_succ, List.set_cons_zero]; rfl) ?_
  refine TL.valE rfl (Val.move 1 rfl rfl) (by simp only [St.put, List.set_cons_succ, List.set_cons_zero]; rfl) ?_
  refine TL.splitG 7 rfl (fun hg7 => ?_) (fun hg7 => ?_)
  · refine TL.guardN rfl rfl hg7 (by simp only [St.put, List.set_cons_succ, List.set_cons_zero]; rfl) ?_
    refine TL.guardN rfl rfl hg7 (by simp only [St.put, List.set_cons_succ, List.set_cons_zero]; rfl) ?_
    refine TL.guardN rfl rfl hg7 (by simp only [St.put, List.set_cons_succ, List.set_cons_zero]; rfl) ?_
    refine TL.guardN rfl rfl hg7 (by simp only [St.put, List.set_cons_succ, List.set_cons_zero]; rfl) ?_
    refine TL.guardN rfl rfl hg7 (by simp only [St.put, List.set_cons_succ, List.set_cons_zero]; rfl) ?_
    refine TL.guardN rfl rfl hg7 (by simp only [St.put, List.set_cons_succ, List.set_cons_zero]; rfl) ?_
    refine TL.guardN rfl rfl hg7 (by simp only [St.put, List.set_cons_succ, List.set_cons_zero]; rfl) ?_
    refine TL.valE rfl (Val.pickT rfl rfl hg7 rfl) (by simp only [St.put, List.set_cons_succ, List.set_cons_zero]; rfl) ?_
    refine TL.nil ?_
    show TC _ _ _ _ _ _
    refine TC.cond rfl (fun hb => ?_) (fun hb => absurd hb (by simp))
    refine TC.seq ?_
    -- region 2
    refine TC.region ?_
    refine TL.valE rfl (Val.assign 1 rfl rfl) (by simp only [St.put, List.set_cons_succ, List.set_cons_zero]; rfl) ?_
    refine TL.nil ?_
    show TC _ _ _ _ _ _
    refine TC.ret ?_
    exact ⟨.inr rfl, [_], [_], _, rfl, by decide, rfl, by simp [refV, refC, valC], rfl, resV (by congr 1; symm; rw [decide_eq_false_iff_not]; rintro rfl; simp_all)⟩
  · refine TL.guardE rfl rfl hg7 (by first | exact Val.field rfl rfl rfl | exact Val.fieldC rfl rfl rfl) (by simp only [St.put, List.set_cons_succ, List.set_cons_zero]; rfl) ?_
    refine TL.guardE rfl rfl hg7 (by first | exact Val.load rfl rfl rfl rfl rfl | exact Val.loadC rfl rfl rfl | exact Val.loadAgg rfl rfl rfl rfl rfl rfl | exact Val.loadCAgg rfl rfl rfl rfl (Nat.le_of_ble_eq_true rfl)) (by simp only [St.put, List.set_cons_succ, List.set_cons_zero]; rfl) ?_
    refine TL.guardE rfl rfl hg7 (by first | exact Val.len rfl rfl rfl rfl | exact Val.lenS rfl rfl rfl) (by simp only [St.put, List.set_cons_succ, List.set_cons_zero]; rfl) ?_
    refine TL.guardE rfl rfl hg7 (by first | exact Val.field rfl rfl rfl | exact Val.fieldC rfl rfl rfl) (by simp only [St.put, List.set_cons_succ, List.set_cons_zero]; rfl) ?_
    refine TL.guardE rfl rfl hg7 (by first | exact Val.load rfl rfl rfl rfl rfl | exact Val.loadC rfl rfl rfl | exact Val.loadAgg rfl rfl rfl rfl rfl rfl | exact Val.loadCAgg rfl rfl rfl rfl (Nat.le_of_ble_eq_true rfl)) (by simp only [St.put, List.set_cons_succ, List.set_cons_zero]; rfl) ?_
    refine TL.guardE rfl rfl hg7 (by first | exact Val.len rfl rfl rfl rfl | exact Val.lenS rfl rfl rfl) (by simp only [St.put, List.set_cons_succ, List.set_cons_zero]; rfl) ?_
    refine TL.guardE rfl rfl hg7 (Val.neq rfl rfl rfl) (by simp only [St.put, List.set_cons_succ, List.set_cons_zero]; rfl) ?_
    refine TL.valE rfl (Val.pickF rfl rfl hg7 rfl) (by simp only [St.put, List.set_cons_succ, List.set_cons_zero]; rfl) ?_
    refine TL.nil ?_
    show TC _ _ _ _ _ _
    refine TC.cond rfl (fun hb => ?_) (fun hb => ?_)
    · refine TC.seq ?_
      -- region 2
      refine TC.region ?_
      refine TL.valE rfl (Val.assign 1 rfl rfl) (by simp only [St.put, List.set_cons_succ, List.set_cons_zero]; rfl) ?_
      refine TL.nil ?_
      show TC _ _ _ _ _ _
      refine TC.ret ?_
      exact ⟨.inr rfl, [_], [_], _, rfl, by decide, rfl, by simp [refV, refC, valC], rfl, resV (by congr 1; symm; rw [decide_eq_false_iff_not]; rintro rfl; simp_all)⟩
    · refine TC.skip ?_
      show TC _ _ _ _ _ _
      refine TC.seq ?_
      refine TC.seq ?_
      have hl : x.All.length = y.All.length := by simp at hg7; omega
      have hl2 : x.Acts.length = y.Acts.length := by simp at hb; omega
      -- region 3
      refine TC.region ?_
      refine TL.valE rfl (Val.assign 1 rfl rfl) (by simp only [St.put, List.set_cons_succ, List.set_cons_zero]; rfl) ?_
      refine TL.nil ?_
      show TC _ _ _ _ _ _
      refine TC.block ?_
      refine TC.loop (fun μ st => ∃ m : Nat, (m ≤ x.All.length ∧ x.All.take m = y.All.take m) ∧ μ = x.All.length - m ∧ Can st ⟨[.one .dead, .one .dead, .one (.ptr ⟨2, [], 0⟩), .one (.ptr ⟨3, [], 0⟩), .one .dead, I m, .one .dead, .one .dead, .one .dead, .one .dead, .one .dead, .one .dead, .one .dead, .one .dead, .one .dead, .one .dead, .one .dead, .one .dead, .one .dead, .one .dead, .one .dead, .one .dead, .one .dead, .one .dead, .one .dead, .one .dead, .one .dead, .one .dead, .one .dead, .one .dead, .one .dead, .one .dead, .one .dead, .one .dead, .one .dead, .one .dead, .one .dead, .one .dead, .one .dead, .one .dead, .one .dead, .one .dead, .one .dead, .one .dead, .one .dead, .one .dead, .one .dead, .one .dead, .one .dead, .one .dead, .one .dead, .one .dead, .one .dead, .one .dead, .one .dead, .one .dead, .one .dead, .one .dead, .one .dead, .one .dead, .one .dead, .one .dead, .one .dead, .one .dead, .one .dead, .one .dead, .one .dead, .one .dead, .one .dead, .one .dead, .one .dead, .one .dead, .one .dead, .one .dead, .one .dead, .one .dead, .one .dead, .one .dead, .one .dead, .one .dead, .one .dead, .one .dead, .one .dead, .one .dead, .one .dead, .one .dead, .one .dead, .one .dead, .one .dead, .one .dead], [(2, ⟨true, (rScript x).map C.ro⟩), (3, ⟨true, (rScript y).map C.ro⟩)]⟩) (x.All.length) ?_ fun μ st hI => ?_
      · refine ⟨0, by simp, by simp, ?_⟩
        exact Can.to (by repeat first | exact LessT.nil | refine LessT.drop ?_ | refine LessT.keep ?_ | refine LessT.eq (by simp) ?_) (by repeat first | exact .nil | refine .cons rfl rfl ?_)
      · obtain ⟨m, hyp, rfl, hcan⟩ := hI
        refine TC.can hcan ?_
        clear hcan
        have hyp1 := hyp
        refine TC.seq ?_
        refine TC.seq ?_
        -- region 4
        refine TC.region ?_
        refine TL.valE rfl (Val.move 1 rfl rfl) (by simp only [St.put, List.set_cons_succ, List.set_cons_zero]; rfl) ?_
        refine TL.valE rfl (by first | exact Val.field rfl rfl rfl | exact Val.fieldC rfl rfl rfl) (by simp only [St.put, List.set_cons_succ, List.set_cons_zero]; rfl) ?_
        refine TL.valE rfl (by first | exact Val.load rfl rfl rfl rfl rfl | exact Val.loadC rfl rfl rfl | exact Val.loadAgg rfl rfl rfl rfl rfl rfl | exact Val.loadCAgg rfl rfl rfl rfl (Nat.le_of_ble_eq_true rfl)) (by simp only [St.put, List.set_cons_succ, List.set_cons_zero]; rfl) ?_
        refine TL.valE rfl (by first | exact Val.len rfl rfl rfl rfl | exact Val.lenS rfl rfl rfl) (by simp only [St.put, List.set_cons_succ, List.set_cons_zero]; rfl) ?_
        refine TL.valE rfl (Val.lss rfl rfl rfl) (by simp only [St.put, List.set_cons_succ, List.set_cons_zero]; rfl) ?_
        refine TL.nil ?_
        show TC _ _ _ _ _ _
        refine TC.cond rfl (fun hb => ?_) (fun hb => ?_)
        · refine TC.skip ?_
          show TC _ _ _ _ _ _
          refine TC.seq ?_
          refine TC.block ?_
          refine TC.seq ?_
          refine TC.seq ?_
          refine TC.most (i := 26) rfl rfl fun hm0 => ?_
          simp only [most, List.length_map] at hm0
          have hm : m < x.All.length := by simpa using hb
          obtain ⟨p, hp⟩ := at_of (xs := x.All) (k := m) hm
          obtain ⟨q, hq⟩ := at_of (xs := y.All) (k := m) (by omega)
          -- region 6
          refine TC.regionQ rfl (by decide +kernel) ?_
          refine TQ.valE rfl (by first | exact Val.field rfl rfl rfl | exact Val.fieldC rfl rfl rfl) (by simp only [St.put, List.set_cons_succ, List.set_cons_zero]; rfl) ?_
          refine TQ.valE rfl (by first | exact Val.load rfl rfl rfl rfl rfl | exact Val.loadC rfl rfl rfl | exact Val.loadAgg rfl rfl rfl rfl rfl rfl | exact Val.loadCAgg rfl rfl rfl rfl (Nat.le_of_ble_eq_true rfl)) (by simp only [St.put, List.set_cons_succ, List.set_cons_zero]; rfl) ?_
          refine TQ.valE rfl (Val.move 1 rfl rfl) (by simp only [St.put, List.set_cons_succ, List.set_cons_zero]; rfl) ?_
          refine TQ.valE rfl (by exact Val.indexC (d := dInsSS p) rfl rfl rfl rfl rfl (by omega) (by simp [hp])) (by simp only [St.put, List.set_cons_succ, List.set_cons_zero]; rfl) ?_
          refine TQ.valE rfl (by first | exact Val.load rfl rfl rfl rfl rfl | exact Val.loadC rfl rfl rfl | exact Val.loadAgg rfl rfl rfl rfl rfl rfl | exact Val.loadCAgg rfl rfl rfl rfl (Nat.le_of_ble_eq_true rfl)) (by simp only [St.put, List.set_cons_succ, List.set_cons_zero]; rfl) ?_
          refine TQ.valE rfl (by first | exact Val.len rfl rfl rfl rfl | exact Val.lenS rfl rfl rfl) (by simp only [St.put, List.set_cons_succ, List.set_cons_zero]; rfl) ?_
          refine TQ.valE rfl (by first | exact Val.field rfl rfl rfl | exact Val.fieldC rfl rfl rfl) (by simp only [St.put, List.set_cons_succ, List.set_cons_zero]; rfl) ?_
          refine TQ.valE rfl (by first | exact Val.load rfl rfl rfl rfl rfl | exact Val.loadC rfl rfl rfl | exact Val.loadAgg rfl rfl rfl rfl rfl rfl | exact Val.loadCAgg rfl rfl rfl rfl (Nat.le_of_ble_eq_true rfl)) (by simp only [St.put, List.set_cons_succ, List.set_cons_zero]; rfl) ?_
          refine TQ.valE rfl (Val.move 1 rfl rfl) (by simp only [St.put, List.set_cons_succ, List.set_cons_zero]; rfl) ?_
          refine TQ.valE rfl (by exact Val.indexC (d := dInsSS q) rfl rfl rfl rfl rfl (by omega) (by simp [hq])) (by simp only [St.put, List.set_cons_succ, List.set_cons_zero]; rfl) ?_
          refine TQ.valE rfl (by first | exact Val.load rfl rfl rfl rfl rfl | exact Val.loadC rfl rfl rfl | exact Val.loadAgg rfl rfl rfl rfl rfl rfl | exact Val.loadCAgg rfl rfl rfl rfl (Nat.le_of_ble_eq_true rfl)) (by simp only [St.put, List.set_cons_succ, List.set_cons_zero]; rfl) ?_
          refine TQ.valE rfl (by first | exact Val.len rfl rfl rfl rfl | exact Val.lenS rfl rfl rfl) (by simp only [St.put, List.set_cons_succ, List.set_cons_zero]; rfl) ?_
          refine TQ.valE rfl (Val.neq rfl rfl rfl) (by simp only [St.put, List.set_cons_succ, List.set_cons_zero]; rfl) ?_
          refine TQ.nil ?_
          show TC _ _ _ _ _ _
          refine TC.cond rfl (fun hb => ?_) (fun hb => ?_)
          · refine TC.seq ?_
            -- region 7
            refine TC.region ?_
            refine TL.valE rfl (Val.assign 1 rfl rfl) (by simp only [St.put, List.set_cons_succ, List.set_cons_zero]; rfl) ?_
            refine TL.nil ?_
            show TC _ _ _ _ _ _
            refine TC.ret ?_
            exact ⟨.inr rfl, [_], [_], _, rfl, by decide, rfl, by simp [refV, refC, valC], rfl, resV (by congr 1; symm; rw [decide_eq_false_iff_not]; rintro rfl; rw [hp] at hq; cases hq; simp at hb)⟩
          · refine TC.skip ?_
            show TC _ _ _ _ _ _
            refine TC.seq ?_
            have hpq : p.length = q.length := by simp at hb; omega
            -- region 8
            refine TC.region ?_
            refine TL.valE rfl (Val.assign 1 rfl rfl) (by simp only [St.put, List.set_cons_succ, List.set_cons_zero]; rfl) ?_
            refine TL.nil ?_
            show TC _ _ _ _ _ _
            refine TC.block ?_
            refine TC.loop (fun μ st => ∃ j : Nat, (j ≤ p.length ∧ p.take j = q.take j) ∧ μ = p.length - j ∧ Can st ⟨[.one .dead, .one .dead, .one (.ptr ⟨2, [], 0⟩), .one (.ptr ⟨3, [], 0⟩), .one .dead, I m, I j, .one .dead, .one .dead, .one .dead, .one .dead, .one .dead, .one .dead, .one .dead, .one .dead, .one .dead, .one .dead, .one .dead, .one .dead, .one .dead, .one .dead, .one .dead, .one .dead, .one .dead, .one .dead, .one .dead, .one .dead, .one .dead, .one .dead, .one .dead, .one .dead, .one .dead, .one .dead, .one .dead, .one .dead, .one .dead, .one .dead, .one .dead, .one .dead, .one .dead, .one .dead, .one .dead, .one .dead, .one .dead, .one .dead, .one .dead, .one .dead, .one .dead, .one .dead, .one .dead, .one .dead, .one .dead, .one .dead, .one .dead, .one .dead, .one .dead, .one .dead, .one .dead, .one .dead, .one .dead, .one .dead, .one .dead, .one .dead, .one .dead, .one .dead, .one .dead, .one .dead, .one .dead, .one .dead, .one .dead, .one .dead, .one .dead, .one .dead, .one .dead, .one .dead, .one .dead, .one .dead, .one .dead, .one .dead, .one .dead, .one .dead, .one .dead, .one .dead, .one .dead, .one .dead, .one .dead, .one .dead, .one .dead, .one .dead, .one .dead], [(2, ⟨true, (rScript x).map C.ro⟩), (3, ⟨true, (rScript y).map C.ro⟩)]⟩) (p.length) ?_ fun μ st hI => ?_
            · refine ⟨0, by simp, by simp, ?_⟩
              exact Can.to (by repeat first | exact LessT.nil | refine LessT.drop ?_ | refine LessT.keep ?_ | refine LessT.eq (by simp) ?_) (by repeat first | exact .nil | refine .cons rfl rfl ?_)
            · obtain ⟨j, hyp, rfl, hcan⟩ := hI
              refine TC.can hcan ?_
              clear hcan
              refine TC.seq ?_
              refine TC.seq ?_
              -- region 9
              refine TC.region ?_
              refine TL.valE rfl (Val.move 1 rfl rfl) (by simp only [St.put, List.set_cons_succ, List.set_cons_zero]; rfl) ?_
              refine TL.valE rfl (by first | exact Val.field rfl rfl rfl | exact Val.fieldC rfl rfl rfl) (by simp only [St.put, List.set_cons_succ, List.set_cons_zero]; rfl) ?_
              refine TL.valE rfl (by first | exact Val.load rfl rfl rfl rfl rfl | exact Val.loadC rfl rfl rfl | exact Val.loadAgg rfl rfl rfl rfl rfl rfl | exact Val.loadCAgg rfl rfl rfl rfl (Nat.le_of_ble_eq_true rfl)) (by simp only [St.put, List.set_cons_succ, List.set_cons_zero]; rfl) ?_
              refine TL.valE rfl (Val.move 1 rfl rfl) (by simp only [St.put, List.set_cons_succ, List.set_cons_zero]; rfl) ?_
              refine TL.valE rfl (by exact Val.indexC (d := dInsSS p) rfl rfl rfl rfl rfl (by omega) (by simp [hp])) (by simp only [St.put, List.set_cons_succ, List.set_cons_zero]; rfl) ?_
              refine TL.valE rfl (by first | exact Val.load rfl rfl rfl rfl rfl | exact Val.loadC rfl rfl rfl | exact Val.loadAgg rfl rfl rfl rfl rfl rfl | exact Val.loadCAgg rfl rfl rfl rfl (Nat.le_of_ble_eq_true rfl)) (by simp only [St.put, List.set_cons_succ, List.set_cons_zero]; rfl) ?_
              refine TL.valE rfl (by first | exact Val.len rfl rfl rfl rfl | exact Val.lenS rfl rfl rfl) (by simp only [St.put, List.set_cons_succ, List.set_cons_zero]; rfl) ?_
              refine TL.valE rfl (Val.lss rfl rfl rfl) (by simp only [St.put, List.set_cons_succ, List.set_cons_zero]; rfl) ?_
              refine TL.nil ?_
              show TC _ _ _ _ _ _
              refine TC.cond rfl (fun hb => ?_) (fun hb => ?_)
              · refine TC.skip ?_
                show TC _ _ _ _ _ _
                refine TC.seq ?_
                refine TC.block ?_
                refine TC.seq ?_
                refine TC.most (i := 49) rfl rfl fun hm0 => ?_
                simp only [most, List.length_map] at hm0
                have hj : j < p.length := by simpa using hb
                obtain ⟨u, hu⟩ := at_of (xs := p) (k := j) hj
                obtain ⟨v, hv⟩ := at_of (xs := q) (k := j) (by omega)
                -- region 11
                refine TC.regionQ rfl (by decide +kernel) ?_
                refine TQ.valE rfl (by first | exact Val.field rfl rfl rfl | exact Val.fieldC rfl rfl rfl) (by simp only [St.put, List.set_cons_succ, List.set_cons_zero]; rfl) ?_
                refine TQ.valE rfl (by first | exact Val.load rfl rfl rfl rfl rfl | exact Val.loadC rfl rfl rfl | exact Val.loadAgg rfl rfl rfl rfl rfl rfl | exact Val.loadCAgg rfl rfl rfl rfl (Nat.le_of_ble_eq_true rfl)) (by simp only [St.put, List.set_cons_succ, List.set_cons_zero]; rfl) ?_
                refine TQ.valE rfl (Val.move 1 rfl rfl) (by simp only [St.put, List.set_cons_succ, List.set_cons_zero]; rfl) ?_
                refine TQ.valE rfl (by exact Val.indexC (d := dInsSS p) rfl rfl rfl rfl rfl (by omega) (by simp [hp])) (by simp only [St.put, List.set_cons_succ, List.set_cons_zero]; rfl) ?_
                refine TQ.valE rfl (by first | exact Val.load rfl rfl rfl rfl rfl | exact Val.loadC rfl rfl rfl | exact Val.loadAgg rfl rfl rfl rfl rfl rfl | exact Val.loadCAgg rfl rfl rfl rfl (Nat.le_of_ble_eq_true rfl)) (by simp only [St.put, List.set_cons_succ, List.set_cons_zero]; rfl) ?_
                refine TQ.valE rfl (Val.move 1 rfl rfl) (by simp only [St.put, List.set_cons_succ, List.set_cons_zero]; rfl) ?_
                refine TQ.valE rfl (by exact Val.indexC (d := dInsS u) rfl rfl rfl rfl rfl (by omega) (by simp [hu])) (by simp only [St.put, List.set_cons_succ, List.set_cons_zero]; rfl) ?_
                refine TQ.valE rfl (by first | exact Val.load rfl rfl rfl rfl rfl | exact Val.loadC rfl rfl rfl | exact Val.loadAgg rfl rfl rfl rfl rfl rfl | exact Val.loadCAgg rfl rfl rfl rfl (Nat.le_of_ble_eq_true rfl)) (by simp only [St.put, List.set_cons_succ, List.set_cons_zero]; rfl) ?_
                refine TQ.valE rfl (by first | exact Val.field rfl rfl rfl | exact Val.fieldC rfl rfl rfl) (by simp only [St.put, List.set_cons_succ, List.set_cons_zero]; rfl) ?_
                refine TQ.valE rfl (by first | exact Val.load rfl rfl rfl rfl rfl | exact Val.loadC rfl rfl rfl | exact Val.loadAgg rfl rfl rfl rfl rfl rfl | exact Val.loadCAgg rfl rfl rfl rfl (Nat.le_of_ble_eq_true rfl)) (by simp only [St.put, List.set_cons_succ, List.set_cons_zero]; rfl) ?_
                refine TQ.valE rfl (Val.move 1 rfl rfl) (by simp only [St.put, List.set_cons_succ, List.set_cons_zero]; rfl) ?_
                refine TQ.valE rfl (by exact Val.indexC (d := dInsSS q) rfl rfl rfl rfl rfl (by omega) (by simp [hq])) (by simp only [St.put, List.set_cons_succ, List.set_cons_zero]; rfl) ?_
                refine TQ.valE rfl (by first | exact Val.load rfl rfl rfl rfl rfl | exact Val.loadC rfl rfl rfl | exact Val.loadAgg rfl rfl rfl rfl rfl rfl | exact Val.loadCAgg rfl rfl rfl rfl (Nat.le_of_ble_eq_true rfl)) (by simp only [St.put, List.set_cons_succ, List.set_cons_zero]; rfl) ?_
                refine TQ.valE rfl (Val.move 1 rfl rfl) (by simp only [St.put, List.set_cons_succ, List.set_cons_zero]; rfl) ?_
                refine TQ.valE rfl (by exact Val.indexC (d := dInsS v) rfl rfl rfl rfl rfl (by omega) (by simp [hv])) (by simp only [St.put, List.set_cons_succ, List.set_cons_zero]; rfl) ?_
                refine TQ.valE rfl (by first | exact Val.load rfl rfl rfl rfl rfl | exact Val.loadC rfl rfl rfl | exact Val.loadAgg rfl rfl rfl rfl rfl rfl | exact Val.loadCAgg rfl rfl rfl rfl (Nat.le_of_ble_eq_true rfl)) (by simp only [St.put, List.set_cons_succ, List.set_cons_zero]; rfl) ?_
                refine TQ.callF (yes_none rfl) rfl rfl rfl rfl rfl rfl (spec_SameProg_f u v) (by repeat first | exact .nil | refine Snaps.cons (.ro _) ?_ | refine Snaps.cons (.aggRo rfl) ?_ | refine Snaps.cons (.cptr _) ?_ | refine Snaps.cons (.fn _) ?_ | refine Snaps.cons (.ownRef rfl (by first | assumption | exact w_InsS _ | exact w_InsSS _ | exact w_InsSSS _ | exact w_ActS _)) ?_ | refine Snaps.cons (.aggR (by repeat first | exact .nil | refine SnapCs.cons (.ro _) ?_ | refine SnapCs.cons (.ref rfl (by first | assumption | exact w_InsS _ | exact w_InsSS _ | exact w_InsSSS _ | exact w_ActS _)) ?_)) ?_) rfl (by simp only [St.put, List.set_cons_succ, List.set_cons_zero]; rfl) ?_
                refine TQ.valE rfl (Val.not rfl rfl) (by simp only [St.put, List.set_cons_succ, List.set_cons_zero]; rfl) ?_
                refine TQ.nil ?_
                show TC _ _ _ _ _ _
                refine TC.cond rfl (fun hb => ?_) (fun hb => ?_)
                · refine TC.seq ?_
                  -- region 12
                  refine TC.region ?_
                  refine TL.valE rfl (Val.assign 1 rfl rfl) (by simp only [St.put, List.set_cons_succ, List.set_cons_zero]; rfl) ?_
                  refine TL.nil ?_
                  show TC _ _ _ _ _ _
                  refine TC.ret ?_
                  exact ⟨.inr rfl, [_], [_], _, rfl, by decide, rfl, by simp [refV, refC, valC], rfl, resV (by congr 1; symm; rw [decide_eq_false_iff_not]; rintro rfl; rw [hp] at hq; cases hq; rw [hu] at hv; cases hv; simp at hb)⟩
                · refine TC.skip ?_
                  show TC _ _ _ _ _ _
                  -- region 10
                  refine TC.region ?_
                  refine TL.valE rfl (Val.move 1 rfl rfl) (by simp only [St.put, List.set_cons_succ, List.set_cons_zero]; rfl) ?_
                  refine TL.valE rfl (Val.add rfl rfl rfl (by first | omega | (simp only [List.length_map]; omega)) (by first | omega | (simp only [List.length_map]; omega))) (by simp only [St.put, List.set_cons_succ, List.set_cons_zero]; rfl) ?_
                  refine TL.valE rfl (Val.assign 1 rfl rfl) (by simp only [St.put, List.set_cons_succ, List.set_cons_zero]; rfl) ?_
                  refine TL.nil ?_
                  refine Seq.normal ⟨_, ?_, j + 1, ?_, rfl, ?_⟩
                  · omega
                  · exact ⟨by omega, eq_step hyp.2 hu (by simp at hb; rw [hb]; exact hv)⟩
                  · exact Can.to (by repeat first | exact LessT.nil | refine LessT.drop ?_ | refine LessT.keep ?_ | refine LessT.eq (by simp) ?_) (by repeat first | exact .nil | refine .cons rfl rfl ?_)
              · refine TC.exit ?_
                -- exit 2
                show TC _ _ _ _ _ _
                have hpq2 : p = q := eq_all hpq hyp.2 (by simp at hb; omega)
                -- region 5
                refine TC.region ?_
                refine TL.valE rfl (Val.move 1 rfl rfl) (by simp only [St.put, List.set_cons_succ, List.set_cons_zero]; rfl) ?_
                refine TL.valE rfl (Val.add rfl rfl rfl (by first | omega | (simp only [List.length_map]; omega)) (by first | omega | (simp only [List.length_map]; omega))) (by simp only [St.put, List.set_cons_succ, List.set_cons_zero]; rfl) ?_
                refine TL.valE rfl (Val.assign 1 rfl rfl) (by simp only [St.put, List.set_cons_succ, List.set_cons_zero]; rfl) ?_
                refine TL.nil ?_
                refine Seq.normal ⟨_, ?_, m + 1, ?_, rfl, ?_⟩
                · omega
                · exact ⟨by omega, eq_step hyp1.2 hp (by rw [hpq2]; exact hq)⟩
                · exact Can.to (by repeat first | exact LessT.nil | refine LessT.drop ?_ | refine LessT.keep ?_ | refine LessT.eq (by simp) ?_) (by repeat first | exact .nil | refine .cons rfl rfl ?_)
        · refine TC.exit ?_
          -- exit 0
          show TC _ _ _ _ _ _
          refine TC.seq ?_
          refine TC.seq ?_
          have hAll : x.All = y.All := eq_all hl hyp.2 (by simp at hb; omega)
          -- region 13
          refine TC.region ?_
          refine TL.valE rfl (Val.assign 1 rfl rfl) (by simp only [St.put, List.set_cons_succ, List.set_cons_zero]; rfl) ?_
          refine TL.nil ?_
          show TC _ _ _ _ _ _
          refine TC.block ?_
          refine TC.loop (fun μ st => ∃ k : Nat, (k ≤ x.Acts.length ∧ x.Acts.take k = y.Acts.take k) ∧ μ = x.Acts.length - k ∧ Can st ⟨[.one .dead, .one .dead, .one (.ptr ⟨2, [], 0⟩), .one (.ptr ⟨3, [], 0⟩), .one .dead, .one .dead, .one .dead, I k, .one .dead, .one .dead, .one .dead, .one .dead, .one .dead, .one .dead, .one .dead, .one .dead, .one .dead, .one .dead, .one .dead, .one .dead, .one .dead, .one .dead, .one .dead, .one .dead, .one .dead, .one .dead, .one .dead, .one .dead, .one .dead, .one .dead, .one .dead, .one .dead, .one .dead, .one .dead, .one .dead, .one .dead, .one .dead, .one .dead, .one .dead, .one .dead, .one .dead, .one .dead, .one .dead, .one .dead, .one .dead, .one .dead, .one .dead, .one .dead, .one .dead, .one .dead, .one .dead, .one .dead, .one .dead, .one .dead, .one .dead, .one .dead, .one .dead, .one .dead, .one .dead, .one .dead, .one .dead, .one .dead, .one .dead, .one .dead, .one .dead, .one .dead, .one .dead, .one .dead, .one .dead, .one .dead, .one .dead, .one .dead, .one .dead, .one .dead, .one .dead, .one .dead, .one .dead, .one .dead, .one .dead, .one .dead, .one .dead, .one .dead, .one .dead, .one .dead, .one .dead, .one .dead, .one .dead, .one .dead, .one .dead, .one .dead], [(2, ⟨true, (rScript x).map C.ro⟩), (3, ⟨true, (rScript y).map C.ro⟩)]⟩) (x.Acts.length) ?_ fun μ st hI => ?_
          · refine ⟨0, by simp, by simp, ?_⟩
            exact Can.to (by repeat first | exact LessT.nil | refine LessT.drop ?_ | refine LessT.keep ?_ | refine LessT.eq (by simp) ?_) (by repeat first | exact .nil | refine .cons rfl rfl ?_)
          · obtain ⟨k, hyp, rfl, hcan⟩ := hI
            refine TC.can hcan ?_
            clear hcan
            refine TC.seq ?_
            refine TC.seq ?_
            -- region 14
            refine TC.region ?_
            refine TL.valE rfl (Val.move 1 rfl rfl) (by simp only [St.put, List.set_cons_succ, List.set_cons_zero]; rfl) ?_
            refine TL.valE rfl (by first | exact Val.field rfl rfl rfl | exact Val.fieldC rfl rfl rfl) (by simp only [St.put, List.set_cons_succ, List.set_cons_zero]; rfl) ?_
            refine TL.valE rfl (by first | exact Val.load rfl rfl rfl rfl rfl | exact Val.loadC rfl rfl rfl | exact Val.loadAgg rfl rfl rfl rfl rfl rfl | exact Val.loadCAgg rfl rfl rfl rfl (Nat.le_of_ble_eq_true rfl)) (by simp only [St.put, List.set_cons_succ, List.set_cons_zero]; rfl) ?_
            refine TL.valE rfl (by first | exact Val.len rfl rfl rfl rfl | exact Val.lenS rfl rfl rfl) (by simp only [St.put, List.set_cons_succ, List.set_cons_zero]; rfl) ?_
            refine TL.valE rfl (Val.lss rfl rfl rfl) (by simp only [St.put, List.set_cons_succ, List.set_cons_zero]; rfl) ?_
            refine TL.nil ?_
            show TC _ _ _ _ _ _
            refine TC.cond rfl (fun hb => ?_) (fun hb => ?_)
            · refine TC.skip ?_
              show TC _ _ _ _ _ _
              refine TC.seq ?_
              refine TC.block ?_
              refine TC.seq ?_
              refine TC.most (i := 74) rfl rfl fun hm0 => ?_
              simp only [most, List.length_map] at hm0
              have hk : k < x.Acts.length := by simpa using hb
              obtain ⟨u, hu⟩ := at_of (xs := x.Acts) (k := k) hk
              obtain ⟨v, hv⟩ := at_of (xs := y.Acts) (k := k) (by omega)
              -- region 16
              refine TC.regionQ rfl (by decide +kernel) ?_
              refine TQ.valE rfl (by first | exact Val.field rfl rfl rfl | exact Val.fieldC rfl rfl rfl) (by simp only [St.put, List.set_cons_succ, List.set_cons_zero]; rfl) ?_
              refine TQ.valE rfl (by first | exact Val.load rfl rfl rfl rfl rfl | exact Val.loadC rfl rfl rfl | exact Val.loadAgg rfl rfl rfl rfl rfl rfl | exact Val.loadCAgg rfl rfl rfl rfl (Nat.le_of_ble_eq_true rfl)) (by simp only [St.put, List.set_cons_succ, List.set_cons_zero]; rfl) ?_
              refine TQ.valE rfl (Val.move 1 rfl rfl) (by simp only [St.put, List.set_cons_succ, List.set_cons_zero]; rfl) ?_
              refine TQ.valE rfl (by exact Val.indexC (d := dAct u) rfl rfl rfl rfl rfl (by omega) (by simp [hu])) (by simp only [St.put, List.set_cons_succ, List.set_cons_zero]; rfl) ?_
              refine TQ.valE rfl (by first | exact Val.load rfl rfl rfl rfl rfl | exact Val.loadC rfl rfl rfl | exact Val.loadAgg rfl rfl rfl rfl rfl rfl | exact Val.loadCAgg rfl rfl rfl rfl (Nat.le_of_ble_eq_true rfl)) (by simp only [St.put, List.set_cons_succ, List.set_cons_zero]; rfl) ?_
              refine TQ.valE rfl (by first | exact Val.field rfl rfl rfl | exact Val.fieldC rfl rfl rfl) (by simp only [St.put, List.set_cons_succ, List.set_cons_zero]; rfl) ?_
              refine TQ.valE rfl (by first | exact Val.load rfl rfl rfl rfl rfl | exact Val.loadC rfl rfl rfl | exact Val.loadAgg rfl rfl rfl rfl rfl rfl | exact Val.loadCAgg rfl rfl rfl rfl (Nat.le_of_ble_eq_true rfl)) (by simp only [St.put, List.set_cons_succ, List.set_cons_zero]; rfl) ?_
              refine TQ.valE rfl (Val.move 1 rfl rfl) (by simp only [St.put, List.set_cons_succ, List.set_cons_zero]; rfl) ?_
              refine TQ.valE rfl (by exact Val.indexC (d := dAct v) rfl rfl rfl rfl rfl (by omega) (by simp [hv])) (by simp only [St.put, List.set_cons_succ, List.set_cons_zero]; rfl) ?_
              refine TQ.valE rfl (by first | exact Val.load rfl rfl rfl rfl rfl | exact Val.loadC rfl rfl rfl | exact Val.loadAgg rfl rfl rfl rfl rfl rfl | exact Val.loadCAgg rfl rfl rfl rfl (Nat.le_of_ble_eq_true rfl)) (by simp only [St.put, List.set_cons_succ, List.set_cons_zero]; rfl) ?_
              refine TQ.valE rfl (Val.neqA rfl rfl rfl rfl rfl rfl (by kernel_rfl) (by kernel_rfl) rfl) (by simp only [St.put, List.set_cons_succ, List.set_cons_zero]; rfl) ?_
              refine TQ.nil ?_
              show TC _ _ _ _ _ _
              refine TC.cond rfl (fun hb => ?_) (fun hb => ?_)
              · refine TC.seq ?_
                -- region 17
                refine TC.region ?_
                refine TL.valE rfl (Val.assign 1 rfl rfl) (by simp only [St.put, List.set_cons_succ, List.set_cons_zero]; rfl) ?_
                refine TL.nil ?_
                show TC _ _ _ _ _ _
                refine TC.ret ?_
                exact ⟨.inr rfl, [_], [_], _, rfl, by decide, rfl, by simp [refV, refC, valC], rfl, resV (by congr 1; symm; rw [decide_eq_false_iff_not]; rintro rfl; rw [hu] at hv; cases hv; cases u; simp [eqVs, eqV] at hb)⟩
              · refine TC.skip ?_
                show TC _ _ _ _ _ _
                -- region 15
                refine TC.region ?_
                refine TL.valE rfl (Val.move 1 rfl rfl) (by simp only [St.put, List.set_cons_succ, List.set_cons_zero]; rfl) ?_
                refine TL.valE rfl (Val.add rfl rfl rfl (by first | omega | (simp only [List.length_map]; omega)) (by first | omega | (simp only [List.length_map]; omega))) (by simp only [St.put, List.set_cons_succ, List.set_cons_zero]; rfl) ?_
                refine TL.valE rfl (Val.assign 1 rfl rfl) (by simp only [St.put, List.set_cons_succ, List.set_cons_zero]; rfl) ?_
                refine TL.nil ?_
                refine Seq.normal ⟨_, ?_, k + 1, ?_, rfl, ?_⟩
                · omega
                · exact ⟨by omega, eq_step hyp.2 hu (by have e : u = v := (by cases u; cases v; simp_all [eqVs, eqV]); rw [e]; exact hv)⟩
                · exact Can.to (by repeat first | exact LessT.nil | refine LessT.drop ?_ | refine LessT.keep ?_ | refine LessT.eq (by simp) ?_) (by repeat first | exact .nil | refine .cons rfl rfl ?_)
            · refine TC.exit ?_
              -- exit 4
              show TC _ _ _ _ _ _
              refine TC.seq ?_
              -- region 18
              refine TC.region ?_
              refine TL.valE rfl (Val.assign 1 rfl rfl) (by simp only [St.put, List.set_cons_succ, List.set_cons_zero]; rfl) ?_
              refine TL.nil ?_
              show TC _ _ _ _ _ _
              refine TC.ret ?_
              exact ⟨.inr rfl, [_], [_], _, rfl, by decide, rfl, by simp [refV, refC, valC], rfl, resV (by have h2 : x.Acts = y.Acts := eq_all hl2 hyp.2 (by simp at hb; omega); cases x; cases y; simp_all)⟩

-- loop.example/g00975/laws.FnExactSameScript: params ['laws.Script = loop.example/g00975/laws.Script', 'laws.Script = loop.example/g00975/laws.Script'] results ['bool'] ('arr', [('app', 'Go.ResultVar.tmp', ['4'])])
theorem laws_FnExactSameScript_f (x y : VScript) : Fun Try.prog 8 [A (rScript x), A (rScript y)] (RV (.bool true)) := by
  refine Fun.of Try.func8 rfl (by simp [Try.ntmps8]) fun w g0 => ?_
  simp only [Try.ntmps8, List.length_cons, List.length_nil, Nat.reduceAdd, Nat.reduceSub, List.replicate, List.cons_append, List.nil_append]
  refine TC.seq ?_
  -- region 0
  refine TC.region ?_
  refine TL.opK rfl fun K hK => ?_
  first | refine OpT.box rfl rfl (z := 1) rfl (by simp) ?_ | refine OpT.boxAgg rfl rfl rfl ?_ -- 2
  simp only [St.fresh, St.kill, St.setRoot, St.put, St.renew, TS.kill, TV.kill, C.kill, Rt.kill, boxC, List.map_cons, List.map_nil, List.filter_cons, List.filter_nil, List.set_cons_succ, List.set_cons_zero, List.contains_cons, List.contains_nil, Nat.reduceBEq, Nat.reduceBNe, St.wrote, hitR, hitP, shapeOf, List.isPrefixOf, List.append_eq, Bool.and_true, Bool.true_and, Bool.and_false, Bool.false_and, List.nil_append, List.cons_append, beq_self_eq_true, bne_self_eq_false, Bool.or_false, Bool.or_true, Bool.not_true, Bool.not_false, Bool.false_eq_true, if_true, if_false, reduceIte, resT, valsD, refsD, refD, nextD, nextsD, cellsD, isSl, List.append_nil]
  refine hK _ ?_
  clear hK K
  refine TL.opK rfl fun K hK => ?_
  first | refine OpT.box rfl rfl (z := 1) rfl (by simp) ?_ | refine OpT.boxAgg rfl rfl rfl ?_ -- 3
  simp only [St.fresh, St.kill, St.setRoot, St.put, St.renew, TS.kill, TV.kill, C.kill, Rt.kill, boxC, List.map_cons, List.map_nil, List.filter_cons, List.filter_nil, List.set_cons_succ, List.set_cons_zero, List.contains_cons, List.contains_nil, Nat.reduceBEq, Nat.reduceBNe, St.wrote, hitR, hitP, shapeOf, List.isPrefixOf, List.append_eq, Bool.and_true, Bool.true_and, Bool.and_false, Bool.false_and, List.nil_append, List.cons_append, beq_self_eq_true, bne_self_eq_false, Bool.or_false, Bool.or_true, Bool.not_true, Bool.not_false, Bool.false_eq_true, if_true, if_false, reduceIte, resT, valsD, refsD, refD, nextD, nextsD, cellsD, isSl, List.append_nil]
  refine hK _ ?_
  clear hK K
  refine TL.valE rfl (Val.assign 1 rfl rfl) (by simp only [St.put, List.set_cons_succ, List.set_cons_zero]; rfl) ?_
  refine TL.nil ?_
  show TC _ _ _ _ _ _
  refine TC.seq ?_
  -- region 1
  refine TC.region ?_
  refine TL.valE rfl (Val.assign 1 rfl rfl) (by simp only [St.put, List.set_cons_succ, List.set_cons_zero]; rfl) ?_
  refine TL.nil ?_
  show TC _ _ _ _ _ _
  refine TC.seq ?_
  -- region 2
  refine TC.region ?_
  refine TL.valE rfl (by first | exact Val.load rfl rfl rfl rfl rfl | exact Val.loadC rfl rfl rfl | exact Val.loadAgg rfl rfl rfl rfl rfl rfl | exact Val.loadCAgg rfl rfl rfl rfl (Nat.le_of_ble_eq_true rfl)) (by simp only [St.put, List.set_cons_succ, List.set_cons_zero]; rfl) ?_
  refine TL.valE rfl (Val.move 1 rfl rfl) (by simp only [St.put, List.set_cons_succ, List.set_cons_zero]; rfl) ?_
  refine TL.callF (yes_none rfl) rfl rfl rfl rfl rfl rfl (laws_szScript_f x 1048576 (by omega) (by omega)) (by repeat first | exact .nil | refine Snaps.cons (.ro _) ?_ | refine Snaps.cons (.aggRo rfl) ?_ | refine Snaps.cons (.cptr _) ?_ | refine Snaps.cons (.fn _) ?_ | refine Snaps.cons (.ownRef rfl (by first | assumption | exact w_InsS _ | exact w_InsSS _ | exact w_InsSSS _ | exact w_ActS _)) ?_ | refine Snaps.cons (.aggR (by repeat first | exact .nil | refine SnapCs.cons (.ro _) ?_ | refine SnapCs.cons (.ref rfl (by first | assumption | exact w_InsS _ | exact w_InsSS _ | exact w_InsSSS _ | exact w_ActS _)) ?_)) ?_) rfl (by simp only [St.put, List.set_cons_succ, List.set_cons_zero]; rfl) ?_
  refine TL.valE rfl (Val.assign 1 rfl rfl) (by simp only [St.put, List.set_cons_succ, List.set_cons_zero]; rfl) ?_
  refine TL.nil ?_
  show TC _ _ _ _ _ _
  refine TC.seq ?_
  refine TC.seq ?_
  -- region 3
  refine TC.region ?_
  refine TL.valE rfl (Val.move 1 rfl rfl) (by simp only [St.put, List.set_cons_succ, List.set_cons_zero]; rfl) ?_
  refine TL.valE rfl (Val.lss rfl rfl rfl) (by simp only [St.put, List.set_cons_succ, List.set_cons_zero]; rfl) ?_
  refine TL.nil ?_
  show TC _ _ _ _ _ _
  refine TC.cond rfl (fun hb => ?_) (fun hb => ?_)
  · refine TC.seq ?_
    -- region 4
    refine TC.region ?_
    refine TL.valE rfl (Val.assign 1 rfl rfl) (by simp only [St.put, List.set_cons_succ, List.set_cons_zero]; rfl) ?_
    refine TL.nil ?_
    show TC _ _ _ _ _ _
    refine TC.ret ?_
    exact ⟨.inr rfl, [_], [_], _, rfl, by decide, rfl, by simp [refV, refC, valC], rfl, rfl⟩
  · refine TC.skip ?_
    show TC _ _ _ _ _ _
    refine TC.seq ?_
    have hx0 : 0 ≤ szScript x 1048576 := by simp at hb; omega
    have hx1 := (szScript_ok x 1048576 hx0).1
    have hx := (szScript_ok x 1048576 hx0).2 (by omega)
    -- region 5
    refine TC.region ?_
    refine TL.valE rfl (by first | exact Val.load rfl rfl rfl rfl rfl | exact Val.loadC rfl rfl rfl | exact Val.loadAgg rfl rfl rfl rfl rfl rfl | exact Val.loadCAgg rfl rfl rfl rfl (Nat.le_of_ble_eq_true rfl)) (by simp only [St.put, List.set_cons_succ, List.set_cons_zero]; rfl) ?_
    refine TL.valE rfl (Val.move 1 rfl rfl) (by simp only [St.put, List.set_cons_succ, List.set_cons_zero]; rfl) ?_
    refine TL.callF (yes_none rfl) rfl rfl rfl rfl rfl rfl (laws_szScript_f y (szScript x 1048576) (by omega) (by omega)) (by repeat first | exact .nil | refine Snaps.cons (.ro _) ?_ | refine Snaps.cons (.aggRo rfl) ?_ | refine Snaps.cons (.cptr _) ?_ | refine Snaps.cons (.fn _) ?_ | refine Snaps.cons (.ownRef rfl (by first | assumption | exact w_InsS _ | exact w_InsSS _ | exact w_InsSSS _ | exact w_ActS _)) ?_ | refine Snaps.cons (.aggR (by repeat first | exact .nil | refine SnapCs.cons (.ro _) ?_ | refine SnapCs.cons (.ref rfl (by first | assumption | exact w_InsS _ | exact w_InsSS _ | exact w_InsSSS _ | exact w_ActS _)) ?_)) ?_) rfl (by simp only [St.put, List.set_cons_succ, List.set_cons_zero]; rfl) ?_
    refine TL.valE rfl (Val.assign 1 rfl rfl) (by simp only [St.put, List.set_cons_succ, List.set_cons_zero]; rfl) ?_
    refine TL.nil ?_
    show TC _ _ _ _ _ _
    refine TC.seq ?_
    refine TC.seq ?_
    -- region 6
    refine TC.region ?_
    refine TL.valE rfl (Val.move 1 rfl rfl) (by simp only [St.put, List.set_cons_succ, List.set_cons_zero]; rfl) ?_
    refine TL.valE rfl (Val.lss rfl rfl rfl) (by simp only [St.put, List.set_cons_succ, List.set_cons_zero]; rfl) ?_
    refine TL.nil ?_
    show TC _ _ _ _ _ _
    refine TC.cond rfl (fun hb => ?_) (fun hb => ?_)
    · refine TC.seq ?_
      -- region 7
      refine TC.region ?_
      refine TL.valE rfl (Val.assign 1 rfl rfl) (by simp only [St.put, List.set_cons_succ, List.set_cons_zero]; rfl) ?_
      refine TL.nil ?_
      show TC _ _ _ _ _ _
      refine TC.ret ?_
      exact ⟨.inr rfl, [_], [_], _, rfl, by decide, rfl, by simp [refV, refC, valC], rfl, rfl⟩
    · refine TC.skip ?_
      show TC _ _ _ _ _ _
      refine TC.seq ?_
      have hy := (szScript_ok y (szScript x 1048576) (by simp at hb; omega)).2 (by omega)
      -- region 8
      refine TC.regionX [(0, false), (2, false), (1, true), (3, true), (4, true), (5, false)] rfl (by decide +kernel) ?_
      refine TX.valE rfl (yes_none rfl) (by first | exact Val.load rfl rfl rfl rfl rfl | exact Val.loadC rfl rfl rfl | exact Val.loadAgg rfl rfl rfl rfl rfl rfl | exact Val.loadCAgg rfl rfl rfl rfl (Nat.le_of_ble_eq_true rfl)) (by simp only [St.put, List.set_cons_succ, List.set_cons_zero]; rfl) ?_
      refine TX.valE rfl (yes_none rfl) (by first | exact Val.load rfl rfl rfl rfl rfl | exact Val.loadC rfl rfl rfl | exact Val.loadAgg rfl rfl rfl rfl rfl rfl | exact Val.loadCAgg rfl rfl rfl rfl (Nat.le_of_ble_eq_true rfl)) (by simp only [St.put, List.set_cons_succ, List.set_cons_zero]; rfl) ?_
      refine TX.opM rfl (yes_none rfl) fun K hK => ?_
      refine OpM.callG rfl rfl rfl rfl rfl rfl rfl (laws_toScript_f x hx) (by repeat first | exact .nil | refine Snaps.cons (.ro _) ?_ | refine Snaps.cons (.aggRo rfl) ?_ | refine Snaps.cons (.cptr _) ?_ | refine Snaps.cons (.fn _) ?_ | refine Snaps.cons (.ownRef rfl (by first | assumption | exact w_InsS _ | exact w_InsSS _ | exact w_InsSSS _ | exact w_ActS _)) ?_ | refine Snaps.cons (.aggR (by repeat first | exact .nil | refine SnapCs.cons (.ro _) ?_ | refine SnapCs.cons (.ref rfl (by first | assumption | exact w_InsS _ | exact w_InsSS _ | exact w_InsSSS _ | exact w_ActS _)) ?_)) ?_) rfl ?_ -- 21
      simp only [St.fresh, St.kill, St.setRoot, St.put, St.renew, TS.kill, TV.kill, C.kill, Rt.kill, boxC, List.map_cons, List.map_nil, List.filter_cons, List.filter_nil, List.set_cons_succ, List.set_cons_zero, List.contains_cons, List.contains_nil, Nat.reduceBEq, Nat.reduceBNe, St.wrote, hitR, hitP, shapeOf, List.isPrefixOf, List.append_eq, Bool.and_true, Bool.true_and, Bool.and_false, Bool.false_and, List.nil_append, List.cons_append, beq_self_eq_true, bne_self_eq_false, Bool.or_false, Bool.or_true, Bool.not_true, Bool.not_false, Bool.false_eq_true, if_true, if_false, reduceIte, resT, valsD, refsD, refD, nextD, nextsD, cellsD, isSl, List.append_nil]
      refine hK _ ?_
      clear hK K
      refine TX.opM rfl (yes_none rfl) fun K hK => ?_
      refine OpM.callG rfl rfl rfl rfl rfl rfl rfl (laws_toScript_f y hy) (by repeat first | exact .nil | refine Snaps.cons (.ro _) ?_ | refine Snaps.cons (.aggRo rfl) ?_ | refine Snaps.cons (.cptr _) ?_ | refine Snaps.cons (.fn _) ?_ | refine Snaps.cons (.ownRef rfl (by first | assumption | exact w_InsS _ | exact w_InsSS _ | exact w_InsSSS _ | exact w_ActS _)) ?_ | refine Snaps.cons (.aggR (by repeat first | exact .nil | refine SnapCs.cons (.ro _) ?_ | refine SnapCs.cons (.ref rfl (by first | assumption | exact w_InsS _ | exact w_InsSS _ | exact w_InsSSS _ | exact w_ActS _)) ?_)) ?_) rfl ?_ -- 23
      simp only [St.fresh, St.kill, St.setRoot, St.put, St.renew, TS.kill, TV.kill, C.kill, Rt.kill, boxC, List.map_cons, List.map_nil, List.filter_cons, List.filter_nil, List.set_cons_succ, List.set_cons_zero, List.contains_cons, List.contains_nil, Nat.reduceBEq, Nat.reduceBNe, St.wrote, hitR, hitP, shapeOf, List.isPrefixOf, List.append_eq, Bool.and_true, Bool.true_and, Bool.and_false, Bool.false_and, List.nil_append, List.cons_append, beq_self_eq_true, bne_self_eq_false, Bool.or_false, Bool.or_true, Bool.not_true, Bool.not_false, Bool.false_eq_true, if_true, if_false, reduceIte, resT, valsD, refsD, refD, nextD, nextsD, cellsD, isSl, List.append_nil]
      refine hK _ ?_
      clear hK K
      refine TX.callF rfl (yes_none rfl) rfl rfl rfl rfl rfl rfl (spec_SameScript_f x y) (by repeat first | exact .nil | refine Snaps.cons (.ro _) ?_ | refine Snaps.cons (.aggRo rfl) ?_ | refine Snaps.cons (.cptr _) ?_ | refine Snaps.cons (.fn _) ?_ | refine Snaps.cons (.ownRef rfl (by first | assumption | exact w_InsS _ | exact w_InsSS _ | exact w_InsSSS _ | exact w_ActS _)) ?_ | refine Snaps.cons (.aggR (by repeat first | exact .nil | refine SnapCs.cons (.ro _) ?_ | refine SnapCs.cons (.ref rfl (by first | assumption | exact w_InsS _ | exact w_InsSS _ | exact w_InsSSS _ | exact w_ActS _)) ?_)) ?_) rfl (by simp only [St.put, List.set_cons_succ, List.set_cons_zero]; rfl) ?_
      refine TX.valE rfl (yes_none rfl) (Val.assign 1 rfl rfl) (by simp only [St.put, List.set_cons_succ, List.set_cons_zero]; rfl) ?_
      refine TX.nil ?_
      show TC _ _ _ _ _ _
      refine TC.seq ?_
      -- region 9
      refine TC.region ?_
      refine TL.valE rfl (by first | exact Val.load rfl rfl rfl rfl rfl | exact Val.loadC rfl rfl rfl | exact Val.loadAgg rfl rfl rfl rfl rfl rfl | exact Val.loadCAgg rfl rfl rfl rfl (Nat.le_of_ble_eq_true rfl)) (by simp only [St.put, List.set_cons_succ, List.set_cons_zero]; rfl) ?_
      refine TL.opK rfl fun K hK => ?_
      refine OpT.callG rfl rfl rfl rfl rfl rfl (laws_toScript_f x hx) (by repeat first | exact .nil | refine Snaps.cons (.ro _) ?_ | refine Snaps.cons (.aggRo rfl) ?_ | refine Snaps.cons (.cptr _) ?_ | refine Snaps.cons (.fn _) ?_ | refine Snaps.cons (.ownRef rfl (by first | assumption | exact w_InsS _ | exact w_InsSS _ | exact w_InsSSS _ | exact w_ActS _)) ?_ | refine Snaps.cons (.aggR (by repeat first | exact .nil | refine SnapCs.cons (.ro _) ?_ | refine SnapCs.cons (.ref rfl (by first | assumption | exact w_InsS _ | exact w_InsSS _ | exact w_InsSSS _ | exact w_ActS _)) ?_)) ?_) rfl ?_ -- 26
      simp only [St.fresh, St.kill, St.setRoot, St.put, St.renew, TS.kill, TV.kill, C.kill, Rt.kill, boxC, List.map_cons, List.map_nil, List.filter_cons, List.filter_nil, List.set_cons_succ, List.set_cons_zero, List.contains_cons, List.contains_nil, Nat.reduceBEq, Nat.reduceBNe, St.wrote, hitR, hitP, shapeOf, List.isPrefixOf, List.append_eq, Bool.and_true, Bool.true_and, Bool.and_false, Bool.false_and, List.nil_append, List.cons_append, beq_self_eq_true, bne_self_eq_false, Bool.or_false, Bool.or_true, Bool.not_true, Bool.not_false, Bool.false_eq_true, if_true, if_false, reduceIte, resT, valsD, refsD, refD, nextD, nextsD, cellsD, isSl, List.append_nil]
      refine hK _ ?_
      clear hK K
      refine TL.opK rfl fun K hK => ?_
      refine OpT.alloc rfl rfl rfl rfl rfl rfl ?_ -- 7
      simp only [St.fresh, St.kill, St.setRoot, St.put, St.renew, TS.kill, TV.kill, C.kill, Rt.kill, boxC, List.map_cons, List.map_nil, List.filter_cons, List.filter_nil, List.set_cons_succ, List.set_cons_zero, List.contains_cons, List.contains_nil, Nat.reduceBEq, Nat.reduceBNe, St.wrote, hitR, hitP, shapeOf, List.isPrefixOf, List.append_eq, Bool.and_true, Bool.true_and, Bool.and_false, Bool.false_and, List.nil_append, List.cons_append, beq_self_eq_true, bne_self_eq_false, Bool.or_false, Bool.or_true, Bool.not_true, Bool.not_false, Bool.false_eq_true, if_true, if_false, reduceIte, resT, valsD, refsD, refD, nextD, nextsD, cellsD, isSl, List.append_nil]
      refine hK _ ?_
      clear hK K
      refine TL.opK rfl fun K hK => ?_
      refine OpT.storeAgg rfl rfl rfl rfl rfl rfl (by simp [St.store1, St.storeAll, St.cellAt, St.isMem, St.root, St.wrote, St.kill, St.setRoot, TS.kill, TV.kill, C.kill, Rt.kill, hitR, hitP, shapeOf, setRow, setAt, rowAt, D.row, D.reRow, List.isPrefixOf]; rfl) ?_ -- None
      simp only [St.fresh, St.kill, St.setRoot, St.put, St.renew, TS.kill, TV.kill, C.kill, Rt.kill, boxC, List.map_cons, List.map_nil, List.filter_cons, List.filter_nil, List.set_cons_succ, List.set_cons_zero, List.contains_cons, List.contains_nil, Nat.reduceBEq, Nat.reduceBNe, St.wrote, hitR, hitP, shapeOf, List.isPrefixOf, List.append_eq, Bool.and_true, Bool.true_and, Bool.and_false, Bool.false_and, List.nil_append, List.cons_append, beq_self_eq_true, bne_self_eq_false, Bool.or_false, Bool.or_true, Bool.not_true, Bool.not_false, Bool.false_eq_true, if_true, if_false, reduceIte, resT, valsD, refsD, refD, nextD, nextsD, cellsD, isSl, List.append_nil]
      refine hK _ ?_
      clear hK K
      refine TL.nil ?_
      show TC _ _ _ _ _ _
      refine TC.seq ?_
      -- region 10
      refine TC.region ?_
      refine TL.valE rfl (by first | exact Val.load rfl rfl rfl rfl rfl | exact Val.loadC rfl rfl rfl | exact Val.loadAgg rfl rfl rfl rfl rfl rfl | exact Val.loadCAgg rfl rfl rfl rfl (Nat.le_of_ble_eq_true rfl)) (by simp only [St.put, List.set_cons_succ, List.set_cons_zero]; rfl) ?_
      refine TL.opK rfl fun K hK => ?_
      refine OpT.callG rfl rfl rfl rfl rfl rfl (laws_toScript_f y hy) (by repeat first | exact .nil | refine Snaps.cons (.ro _) ?_ | refine Snaps.cons (.aggRo rfl) ?_ | refine Snaps.cons (.cptr _) ?_ | refine Snaps.cons (.fn _) ?_ | refine Snaps.cons (.ownRef rfl (by first | assumption | exact w_InsS _ | exact w_InsSS _ | exact w_InsSSS _ | exact w_ActS _)) ?_ | refine Snaps.cons (.aggR (by repeat first | exact .nil | refine SnapCs.cons (.ro _) ?_ | refine SnapCs.cons (.ref rfl (by first | assumption | exact w_InsS _ | exact w_InsSS _ | exact w_InsSSS _ | exact w_ActS _)) ?_)) ?_) rfl ?_ -- 28
      simp only [St.fresh, St.kill, St.setRoot, St.put, St.renew, TS.kill, TV.kill, C.kill, Rt.kill, boxC, List.map_cons, List.map_nil, List.filter_cons, List.filter_nil, List.set_cons_succ, List.set_cons_zero, List.contains_cons, List.contains_nil, Nat.reduceBEq, Nat.reduceBNe, St.wrote, hitR, hitP, shapeOf, List.isPrefixOf, List.append_eq, Bool.and_true, Bool.true_and, Bool.and_false, Bool.false_and, List.nil_append, List.cons_append, beq_self_eq_true, bne_self_eq_false, Bool.or_false, Bool.or_true, Bool.not_true, Bool.not_false, Bool.false_eq_true, if_true, if_false, reduceIte, resT, valsD, refsD, refD, nextD, nextsD, cellsD, isSl, List.append_nil]
      refine hK _ ?_
      clear hK K
      refine TL.opK rfl fun K hK => ?_
      refine OpT.alloc rfl rfl rfl rfl rfl rfl ?_ -- 8
      simp only [St.fresh, St.kill, St.setRoot, St.put, St.renew, TS.kill, TV.kill, C.kill, Rt.kill, boxC, List.map_cons, List.map_nil, List.filter_cons, List.filter_nil, List.set_cons_succ, List.set_cons_zero, List.contains_cons, List.contains_nil, Nat.reduceBEq, Nat.reduceBNe, St.wrote, hitR, hitP, shapeOf, List.isPrefixOf, List.append_eq, Bool.and_true, Bool.true_and, Bool.and_false, Bool.false_and, List.nil_append, List.cons_append, beq_self_eq_true, bne_self_eq_false, Bool.or_false, Bool.or_true, Bool.not_true, Bool.not_false, Bool.false_eq_true, if_true, if_false, reduceIte, resT, valsD, refsD, refD, nextD, nextsD, cellsD, isSl, List.append_nil]
      refine hK _ ?_
      clear hK K
      refine TL.opK rfl fun K hK => ?_
      refine OpT.storeAgg rfl rfl rfl rfl rfl rfl (by simp [St.store1, St.storeAll, St.cellAt, St.isMem, St.root, St.wrote, St.kill, St.setRoot, TS.kill, TV.kill, C.kill, Rt.kill, hitR, hitP, shapeOf, setRow, setAt, rowAt, D.row, D.reRow, List.isPrefixOf]; rfl) ?_ -- None
      simp only [St.fresh, St.kill, St.setRoot, St.put, St.renew, TS.kill, TV.kill, C.kill, Rt.kill, boxC, List.map_cons, List.map_nil, List.filter_cons, List.filter_nil, List.set_cons_succ, List.set_cons_zero, List.contains_cons, List.contains_nil, Nat.reduceBEq, Nat.reduceBNe, St.wrote, hitR, hitP, shapeOf, List.isPrefixOf, List.append_eq, Bool.and_true, Bool.true_and, Bool.and_false, Bool.false_and, List.nil_append, List.cons_append, beq_self_eq_true, bne_self_eq_false, Bool.or_false, Bool.or_true, Bool.not_true, Bool.not_false, Bool.false_eq_true, if_true, if_false, reduceIte, resT, valsD, refsD, refD, nextD, nextsD, cellsD, isSl, List.append_nil]
      refine hK _ ?_
      clear hK K
      refine TL.nil ?_
      show TC _ _ _ _ _ _
      refine TC.seq ?_
      -- region 11
      refine TC.region ?_
      refine TL.valE rfl (by first | exact Val.load rfl rfl rfl rfl rfl | exact Val.loadC rfl rfl rfl | exact Val.loadAgg rfl rfl rfl rfl rfl rfl | exact Val.loadCAgg rfl rfl rfl rfl (Nat.le_of_ble_eq_true rfl)) (by simp only [St.put, List.set_cons_succ, List.set_cons_zero]; rfl) ?_
      refine TL.valE rfl (by first | exact Val.load rfl rfl rfl rfl rfl | exact Val.loadC rfl rfl rfl | exact Val.loadAgg rfl rfl rfl rfl rfl rfl | exact Val.loadCAgg rfl rfl rfl rfl (Nat.le_of_ble_eq_true rfl)) (by simp only [St.put, List.set_cons_succ, List.set_cons_zero]; rfl) ?_
      refine TL.callF (yes_none rfl) rfl rfl rfl rfl rfl rfl (impl_SameScript_f x y) (by repeat first | exact .nil | refine Snaps.cons (.ro _) ?_ | refine Snaps.cons (.aggRo rfl) ?_ | refine Snaps.cons (.cptr _) ?_ | refine Snaps.cons (.fn _) ?_ | refine Snaps.cons (.ownRef rfl (by first | assumption | exact w_InsS _ | exact w_InsSS _ | exact w_InsSSS _ | exact w_ActS _)) ?_ | refine Snaps.cons (.aggR (by repeat first | exact .nil | refine SnapCs.cons (.ro _) ?_ | refine SnapCs.cons (.ref rfl (by first | assumption | exact w_InsS _ | exact w_InsSS _ | exact w_InsSSS _ | exact w_ActS _)) ?_)) ?_) rfl (by simp only [St.put, List.set_cons_succ, List.set_cons_zero]; rfl) ?_
      refine TL.valE rfl (Val.assign 1 rfl rfl) (by simp only [St.put, List.set_cons_succ, List.set_cons_zero]; rfl) ?_
      refine TL.nil ?_
      show TC _ _ _ _ _ _
      refine TC.seq ?_
      refine TC.seq ?_
      -- region 12
      refine TC.region ?_
      refine TL.valE rfl (Val.move 1 rfl rfl) (by simp only [St.put, List.set_cons_succ, List.set_cons_zero]; rfl) ?_
      refine TL.valE rfl (Val.move 1 rfl rfl) (by simp only [St.put, List.set_cons_succ, List.set_cons_zero]; rfl) ?_
      refine TL.valE rfl (Val.neqB rfl rfl rfl rfl) (by simp only [St.put, List.set_cons_succ, List.set_cons_zero]; rfl) ?_
      refine TL.nil ?_
      show TC _ _ _ _ _ _
      refine TC.cond rfl (fun hb => ?_) (fun hb => ?_)
      · refine TC.seq ?_
        exact absurd hb (by simp)
      · refine TC.skip ?_
        show TC _ _ _ _ _ _
        refine TC.seq ?_
        refine TC.seq ?_
        -- region 14
        refine TC.regionX [(0, false), (1, false), (2, true), (3, true), (4, false)] rfl (by decide +kernel) ?_
        refine TX.valE rfl (yes_none rfl) (by first | exact Val.load rfl rfl rfl rfl rfl | exact Val.loadC rfl rfl rfl | exact Val.loadAgg rfl rfl rfl rfl rfl rfl | exact Val.loadCAgg rfl rfl rfl rfl (Nat.le_of_ble_eq_true rfl)) (by simp only [St.put, List.set_cons_succ, List.set_cons_zero]; rfl) ?_
        refine TX.valE rfl (yes_none rfl) (by first | exact Val.load rfl rfl rfl rfl rfl | exact Val.loadC rfl rfl rfl | exact Val.loadAgg rfl rfl rfl rfl rfl rfl | exact Val.loadCAgg rfl rfl rfl rfl (Nat.le_of_ble_eq_true rfl)) (by simp only [St.put, List.set_cons_succ, List.set_cons_zero]; rfl) ?_
        refine TX.opM rfl (yes_none rfl) fun K hK => ?_
        refine OpM.callG rfl rfl rfl rfl rfl rfl rfl (laws_toScript_f x hx) (by repeat first | exact .nil | refine Snaps.cons (.ro _) ?_ | refine Snaps.cons (.aggRo rfl) ?_ | refine Snaps.cons (.cptr _) ?_ | refine Snaps.cons (.fn _) ?_ | refine Snaps.cons (.ownRef rfl (by first | assumption | exact w_InsS _ | exact w_InsSS _ | exact w_InsSSS _ | exact w_ActS _)) ?_ | refine Snaps.cons (.aggR (by repeat first | exact .nil | refine SnapCs.cons (.ro _) ?_ | refine SnapCs.cons (.ref rfl (by first | assumption | exact w_InsS _ | exact w_InsSS _ | exact w_InsSSS _ | exact w_ActS _)) ?_)) ?_) rfl ?_ -- 37
        simp only [St.fresh, St.kill, St.setRoot, St.put, St.renew, TS.kill, TV.kill, C.kill, Rt.kill, boxC, List.map_cons, List.map_nil, List.filter_cons, List.filter_nil, List.set_cons_succ, List.set_cons_zero, List.contains_cons, List.contains_nil, Nat.reduceBEq, Nat.reduceBNe, St.wrote, hitR, hitP, shapeOf, List.isPrefixOf, List.append_eq, Bool.and_true, Bool.true_and, Bool.and_false, Bool.false_and, List.nil_append, List.cons_append, beq_self_eq_true, bne_self_eq_false, Bool.or_false, Bool.or_true, Bool.not_true, Bool.not_false, Bool.false_eq_true, if_true, if_false, reduceIte, resT, valsD, refsD, refD, nextD, nextsD, cellsD, isSl, List.append_nil]
        refine hK _ ?_
        clear hK K
        refine TX.callF rfl (yes_none rfl) rfl rfl rfl rfl rfl rfl (laws_eqScript_f x x) (by repeat first | exact .nil | refine Snaps.cons (.ro _) ?_ | refine Snaps.cons (.aggRo rfl) ?_ | refine Snaps.cons (.cptr _) ?_ | refine Snaps.cons (.fn _) ?_ | refine Snaps.cons (.ownRef rfl (by first | assumption | exact w_InsS _ | exact w_InsSS _ | exact w_InsSSS _ | exact w_ActS _)) ?_ | refine Snaps.cons (.aggR (by repeat first | exact .nil | refine SnapCs.cons (.ro _) ?_ | refine SnapCs.cons (.ref rfl (by first | assumption | exact w_InsS _ | exact w_InsSS _ | exact w_InsSSS _ | exact w_ActS _)) ?_)) ?_) rfl (by simp only [St.put, List.set_cons_succ, List.set_cons_zero]; rfl) ?_
        refine TX.valE rfl (yes_none rfl) (Val.not rfl rfl) (by simp only [St.put, List.set_cons_succ, List.set_cons_zero]; rfl) ?_
        refine TX.nil ?_
        show TC _ _ _ _ _ _
        refine TC.cond rfl (fun hb => ?_) (fun hb => ?_)
        · refine TC.seq ?_
          exact absurd hb (by simp)
        · refine TC.skip ?_
          show TC _ _ _ _ _ _
          refine TC.seq ?_
          refine TC.seq ?_
          -- region 16
          refine TC.regionX [(0, false), (1, false), (2, true), (3, true), (4, false)] rfl (by decide +kernel) ?_
          refine TX.valE rfl (yes_none rfl) (by first | exact Val.load rfl rfl rfl rfl rfl | exact Val.loadC rfl rfl rfl | exact Val.loadAgg rfl rfl rfl rfl rfl rfl | exact Val.loadCAgg rfl rfl rfl rfl (Nat.le_of_ble_eq_true rfl)) (by simp only [St.put, List.set_cons_succ, List.set_cons_zero]; rfl) ?_
          refine TX.valE rfl (yes_none rfl) (by first | exact Val.load rfl rfl rfl rfl rfl | exact Val.loadC rfl rfl rfl | exact Val.loadAgg rfl rfl rfl rfl rfl rfl | exact Val.loadCAgg rfl rfl rfl rfl (Nat.le_of_ble_eq_true rfl)) (by simp only [St.put, List.set_cons_succ, List.set_cons_zero]; rfl) ?_
          refine TX.opM rfl (yes_none rfl) fun K hK => ?_
          refine OpM.callG rfl rfl rfl rfl rfl rfl rfl (laws_toScript_f y hy) (by repeat first | exact .nil | refine Snaps.cons (.ro _) ?_ | refine Snaps.cons (.aggRo rfl) ?_ | refine Snaps.cons (.cptr _) ?_ | refine Snaps.cons (.fn _) ?_ | refine Snaps.cons (.ownRef rfl (by first | assumption | exact w_InsS _ | exact w_InsSS _ | exact w_InsSSS _ | exact w_ActS _)) ?_ | refine Snaps.cons (.aggR (by repeat first | exact .nil | refine SnapCs.cons (.ro _) ?_ | refine SnapCs.cons (.ref rfl (by first | assumption | exact w_InsS _ | exact w_InsSS _ | exact w_InsSSS _ | exact w_ActS _)) ?_)) ?_) rfl ?_ -- 42
          simp only [St.fresh, St.kill, St.setRoot, St.put, St.renew, TS.kill, TV.kill, C.kill, Rt.kill, boxC, List.map_cons, List.map_nil, List.filter_cons, List.filter_nil, List.set_cons_succ, List.set_cons_zero, List.contains_cons, List.contains_nil, Nat.reduceBEq, Nat.reduceBNe, St.wrote, hitR, hitP, shapeOf, List.isPrefixOf, List.append_eq, Bool.and_true, Bool.true_and, Bool.and_false, Bool.false_and, List.nil_append, List.cons_append, beq_self_eq_true, bne_self_eq_false, Bool.or_false, Bool.or_true, Bool.not_true, Bool.not_false, Bool.false_eq_true, if_true, if_false, reduceIte, resT, valsD, refsD, refD, nextD, nextsD, cellsD, isSl, List.append_nil]
          refine hK _ ?_
          clear hK K
          refine TX.callF rfl (yes_none rfl) rfl rfl rfl rfl rfl rfl (laws_eqScript_f y y) (by repeat first | exact .nil | refine Snaps.cons (.ro _) ?_ | refine Snaps.cons (.aggRo rfl) ?_ | refine Snaps.cons (.cptr _) ?_ | refine Snaps.cons (.fn _) ?_ | refine Snaps.cons (.ownRef rfl (by first | assumption | exact w_InsS _ | exact w_InsSS _ | exact w_InsSSS _ | exact w_ActS _)) ?_ | refine Snaps.cons (.aggR (by repeat first | exact .nil | refine SnapCs.cons (.ro _) ?_ | refine SnapCs.cons (.ref rfl (by first | assumption | exact w_InsS _ | exact w_InsSS _ | exact w_InsSSS _ | exact w_ActS _)) ?_)) ?_) rfl (by simp only [St.put, List.set_cons_succ, List.set_cons_zero]; rfl) ?_
          refine TX.valE rfl (yes_none rfl) (Val.not rfl rfl) (by simp only [St.put, List.set_cons_succ, List.set_cons_zero]; rfl) ?_
          refine TX.nil ?_
          show TC _ _ _ _ _ _
          refine TC.cond rfl (fun hb => ?_) (fun hb => ?_)
          · refine TC.seq ?_
            exact absurd hb (by simp)
          · refine TC.skip ?_
            show TC _ _ _ _ _ _
            refine TC.seq ?_
            -- region 18
            refine TC.region ?_
            refine TL.valE rfl (Val.assign 1 rfl rfl) (by simp only [St.put, List.set_cons_succ, List.set_cons_zero]; rfl) ?_
            refine TL.nil ?_
            show TC _ _ _ _ _ _
            refine TC.ret ?_
            exact ⟨.inr rfl, [_], [_], _, rfl, by decide, rfl, by simp [refV, refC, valC], rfl, rfl⟩
end Go.Proofs.Ytljoagkclakjmaa.T

