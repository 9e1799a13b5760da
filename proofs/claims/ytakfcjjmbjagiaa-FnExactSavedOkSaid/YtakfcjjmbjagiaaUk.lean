/- What a saved system must be like: impl's functions. PRINTED by gen.py out of spec_ok.py. -/
import Derived.Test.YtakfcjjmbjagiaaUe
import Derived.Test.YtakfcjjmbjagiaaTy
import Derived.Test.YtakfcjjmbjagiaaUi
namespace Go.Proofs.Ytakfcjjmbjagiaa.T
open Go
set_option linter.unusedVariables false
set_option linter.unusedSimpArgs false
set_option maxRecDepth 100000
set_option maxHeartbeats 1000000

-- loop.example/g00975/impl.within: params ['int', 'int', 'int'] results ['bool'] ('arr', [('app', 'Go.ResultVar.tmp', ['6'])])
theorem impl_within_f (n a b : Int) : Fun Try.prog 25 [I n, I a, I b] (RV (.bool (inR n a b))) := by
  refine Fun.of Try.func25 rfl (by simp [Try.ntmps25]) fun w g0 => ?_
  simp only [Try.ntmps25, List.length_cons, List.length_nil, Nat.reduceAdd, Nat.reduceSub, List.replicate, List.cons_append, List.nil_append]
  refine TC.seq ?_
  -- region 0
  refine TC.region ?_
  refine TL.valE rfl (Val.assign 1 rfl rfl) (by simp only [St.put, List.set_cons_succ, List.set_cons_zero]; rfl) ?_
  refine TL.nil ?_
  show TC _ _ _ _ _ _
  refine TC.seq ?_
  -- region 1
  refine TC.region ?_
  refine TL.valE rfl (Val.move 1 rfl rfl) (by simp only [St.put, List.set_cons_succ, List.set_cons_zero]; rfl) ?_
  refine TL.valE rfl (Val.move 1 rfl rfl) (by simp only [St.put, List.set_cons_succ, List.set_cons_zero]; rfl) ?_
  refine TL.valE rfl (Val.geq rfl rfl rfl) (by simp only [St.put, List.set_cons_succ, List.set_cons_zero]; rfl) ?_
  refine TL.valE rfl (Val.move 1 rfl rfl) (by simp only [St.put, List.set_cons_succ, List.set_cons_zero]; rfl) ?_
  refine TL.splitG 3 rfl (fun hg3 => ?_) (fun hg3 => ?_)
  · refine TL.guardE rfl rfl hg3 (Val.move 1 rfl rfl) (by simp only [St.put, List.set_cons_succ, List.set_cons_zero]; rfl) ?_
    refine TL.guardE rfl rfl hg3 (Val.move 1 rfl rfl) (by simp only [St.put, List.set_cons_succ, List.set_cons_zero]; rfl) ?_
    refine TL.guardE rfl rfl hg3 (Val.leq rfl rfl rfl) (by simp only [St.put, List.set_cons_succ, List.set_cons_zero]; rfl) ?_
    refine TL.valE rfl (Val.pickT rfl rfl hg3 rfl) (by simp only [St.put, List.set_cons_succ, List.set_cons_zero]; rfl) ?_
    refine TL.valE rfl (Val.assign 1 rfl rfl) (by simp only [St.put, List.set_cons_succ, List.set_cons_zero]; rfl) ?_
    refine TL.nil ?_
    show TC _ _ _ _ _ _
    refine TC.ret ?_
    exact ⟨.inr rfl, [_], [_], _, rfl, by decide, rfl, by simp [refV, refC, valC], rfl, resV (by simp_all [inR] <;> (try intros) <;> omega)⟩
  · iterate 3 (refine TL.skip (nope_b rfl rfl hg3) (by simp only [St.put, List.set_cons_succ, List.set_cons_zero]; rfl) ?_)
    refine TL.valE rfl (Val.pickF rfl rfl hg3 rfl) (by simp only [St.put, List.set_cons_succ, List.set_cons_zero]; rfl) ?_
    refine TL.valE rfl (Val.assign 1 rfl rfl) (by simp only [St.put, List.set_cons_succ, List.set_cons_zero]; rfl) ?_
    refine TL.nil ?_
    show TC _ _ _ _ _ _
    refine TC.ret ?_
    exact ⟨.inr rfl, [_], [_], _, rfl, by decide, rfl, by simp [refV, refC, valC], rfl, resV (by simp_all [inR] <;> (try intros) <;> omega)⟩

-- loop.example/g00975/impl.InsOk: params ['impl.Ins = loop.example/g00975/impl.Ins'] results ['bool'] ('arr', [('app', 'Go.ResultVar.tmp', ['2'])])
theorem impl_InsOk_f (x : VIns) : Fun Try.prog 72 [A (rIns x)] (RV (.bool (insOk x))) := by
  refine Fun.of Try.func72 rfl (by simp [Try.ntmps72]) fun w g0 => ?_
  simp only [Try.ntmps72, List.length_cons, List.length_nil, Nat.reduceAdd, Nat.reduceSub, List.replicate, List.cons_append, List.nil_append]
  refine TC.seq ?_
  -- region 0
  refine TC.region ?_
  refine TL.opK rfl fun K hK => ?_
  first | refine OpT.box rfl rfl (z := 1) rfl (by simp) ?_ | refine OpT.boxAgg rfl rfl rfl ?_ -- 1
  simp only [St.fresh, St.kill, St.setRoot, St.put, St.renew, TS.kill, TV.kill, C.kill, Rt.kill, boxC, List.map_cons, List.map_nil, List.filter_cons, List.filter_nil, List.set_cons_succ, List.set_cons_zero, List.contains_cons, List.contains_nil, Nat.reduceBEq, Nat.reduceBNe, St.wrote, hitR, hitP, shapeOf, List.isPrefixOf, List.append_eq, Bool.and_true, Bool.true_and, Bool.and_false, Bool.false_and, List.nil_append, List.cons_append, beq_self_eq_true, bne_self_eq_false, Bool.or_false, Bool.or_true, Bool.not_true, Bool.not_false, Bool.false_eq_true, if_true, if_false, reduceIte, resT, valsD, refsD, refD, nextD, nextsD, cellsD, isSl, List.append_nil]
  refine hK _ ?_
  clear hK K
  refine TL.valE rfl (Val.assign 1 rfl rfl) (by simp only [St.put, List.set_cons_succ, List.set_cons_zero]; rfl) ?_
  refine TL.nil ?_
  show TC _ _ _ _ _ _
  refine TC.seq ?_
  refine TC.seq ?_
  -- region 1
  refine TC.region ?_
  refine TL.valE rfl (by first | exact Val.field rfl rfl rfl | exact Val.fieldC rfl rfl rfl) (by simp only [St.put, List.set_cons_succ, List.set_cons_zero, List.getElem_toArray, List.getElem_cons_succ, List.getElem_cons_zero, Nat.zero_add, Nat.reduceAdd]; rfl) ?_
  refine TL.valE rfl (by first | exact Val.load rfl rfl rfl rfl rfl | exact Val.loadC rfl rfl rfl) (by simp only [St.put, List.set_cons_succ, List.set_cons_zero, valC]; rfl) ?_
  refine TL.nil ?_
  show TC _ _ _ _ _ _
  refine TC.block ?_
  refine TC.seq ?_
  refine TC.seq ?_
  -- region 2
  refine TC.region ?_
  refine TL.valE rfl (Val.eql rfl rfl rfl) (by simp only [St.put, List.set_cons_succ, List.set_cons_zero]; rfl) ?_
  refine TL.valE rfl (Val.assign 1 rfl rfl) (by simp only [St.put, List.set_cons_succ, List.set_cons_zero]; rfl) ?_
  refine TL.nil ?_
  show TC _ _ _ _ _ _
  refine TC.cond rfl (fun hb => ?_) (fun hb => ?_)
  · refine TC.skip ?_
    show TC _ _ _ _ _ _
    refine TC.cond rfl (fun hb => ?_) (fun hb => ?_)
    · refine TC.seq ?_
      -- region 6
      refine TC.region ?_
      refine TL.valE rfl (by first | exact Val.field rfl rfl rfl | exact Val.fieldC rfl rfl rfl) (by simp only [St.put, List.set_cons_succ, List.set_cons_zero, List.getElem_toArray, List.getElem_cons_succ, List.getElem_cons_zero, Nat.zero_add, Nat.reduceAdd]; rfl) ?_
      refine TL.valE rfl (by first | exact Val.load rfl rfl rfl rfl rfl | exact Val.loadC rfl rfl rfl) (by simp only [St.put, List.set_cons_succ, List.set_cons_zero, valC]; rfl) ?_
      refine TL.callF (yes_none rfl) rfl rfl rfl rfl rfl rfl (impl_within_f _ _ _) (by repeat first | exact .nil | refine Snaps.cons (.ro _) ?_ | refine Snaps.cons (.aggRo rfl) ?_ | refine Snaps.cons (.cptr _) ?_ | refine Snaps.cons (.fn _) ?_ | refine Snaps.cons (.ownRef rfl (by first | assumption | exact w_IntS _ | exact w_IntSS _ | exact w_InsS _ | exact w_SlotS _ | exact w_GuestS _ | exact w_BareS _)) ?_ | refine Snaps.cons (.aggR (by repeat first | exact .nil | refine SnapCs.cons (.ro _) ?_ | refine SnapCs.cons (.ref rfl (by first | assumption | exact w_IntS _ | exact w_IntSS _ | exact w_InsS _ | exact w_SlotS _ | exact w_GuestS _ | exact w_BareS _)) ?_)) ?_) rfl (by simp only [St.put, List.set_cons_succ, List.set_cons_zero]; rfl) ?_
      refine TL.valE rfl (Val.assign 1 rfl rfl) (by simp only [St.put, List.set_cons_succ, List.set_cons_zero]; rfl) ?_
      refine TL.nil ?_
      show TC _ _ _ _ _ _
      refine TC.ret ?_
      exact ⟨.inr rfl, [_], [_], _, rfl, by decide, rfl, by simp [refV, refC, valC], rfl, resV (by simp_all [insOk] <;> rfl)⟩
    · refine TC.seq ?_
      refine TC.seq ?_
      -- region 7
      refine TC.region ?_
      refine TL.valE rfl (Val.eql rfl rfl rfl) (by simp only [St.put, List.set_cons_succ, List.set_cons_zero]; rfl) ?_
      refine TL.valE rfl (Val.assign 1 rfl rfl) (by simp only [St.put, List.set_cons_succ, List.set_cons_zero]; rfl) ?_
      refine TL.nil ?_
      show TC _ _ _ _ _ _
      refine TC.cond rfl (fun hb => ?_) (fun hb => ?_)
      · refine TC.skip ?_
        show TC _ _ _ _ _ _
        refine TC.cond rfl (fun hb => ?_) (fun hb => ?_)
        · refine TC.seq ?_
          -- region 9
          refine TC.region ?_
          refine TL.valE rfl (by first | exact Val.field rfl rfl rfl | exact Val.fieldC rfl rfl rfl) (by simp only [St.put, List.set_cons_succ, List.set_cons_zero, List.getElem_toArray, List.getElem_cons_succ, List.getElem_cons_zero, Nat.zero_add, Nat.reduceAdd]; rfl) ?_
          refine TL.valE rfl (by first | exact Val.load rfl rfl rfl rfl rfl | exact Val.loadC rfl rfl rfl) (by simp only [St.put, List.set_cons_succ, List.set_cons_zero, valC]; rfl) ?_
          refine TL.callF (yes_none rfl) rfl rfl rfl rfl rfl rfl (impl_within_f _ _ _) (by repeat first | exact .nil | refine Snaps.cons (.ro _) ?_ | refine Snaps.cons (.aggRo rfl) ?_ | refine Snaps.cons (.cptr _) ?_ | refine Snaps.cons (.fn _) ?_ | refine Snaps.cons (.ownRef rfl (by first | assumption | exact w_IntS _ | exact w_IntSS _ | exact w_InsS _ | exact w_SlotS _ | exact w_GuestS _ | exact w_BareS _)) ?_ | refine Snaps.cons (.aggR (by repeat first | exact .nil | refine SnapCs.cons (.ro _) ?_ | refine SnapCs.cons (.ref rfl (by first | assumption | exact w_IntS _ | exact w_IntSS _ | exact w_InsS _ | exact w_SlotS _ | exact w_GuestS _ | exact w_BareS _)) ?_)) ?_) rfl (by simp only [St.put, List.set_cons_succ, List.set_cons_zero]; rfl) ?_
          refine TL.valE rfl (Val.assign 1 rfl rfl) (by simp only [St.put, List.set_cons_succ, List.set_cons_zero]; rfl) ?_
          refine TL.nil ?_
          show TC _ _ _ _ _ _
          refine TC.ret ?_
          exact ⟨.inr rfl, [_], [_], _, rfl, by decide, rfl, by simp [refV, refC, valC], rfl, resV (by simp_all [insOk] <;> rfl)⟩
        · refine TC.seq ?_
          -- region 10
          refine TC.region ?_
          refine TL.valE rfl (Val.eql rfl rfl rfl) (by simp only [St.put, List.set_cons_succ, List.set_cons_zero]; rfl) ?_
          refine TL.valE rfl (Val.assign 1 rfl rfl) (by simp only [St.put, List.set_cons_succ, List.set_cons_zero]; rfl) ?_
          refine TL.nil ?_
          show TC _ _ _ _ _ _
          refine TC.cond rfl (fun hb => ?_) (fun hb => ?_)
          · refine TC.seq ?_
            -- region 11
            refine TC.region ?_
            refine TL.valE rfl (by first | exact Val.field rfl rfl rfl | exact Val.fieldC rfl rfl rfl) (by simp only [St.put, List.set_cons_succ, List.set_cons_zero, List.getElem_toArray, List.getElem_cons_succ, List.getElem_cons_zero, Nat.zero_add, Nat.reduceAdd]; rfl) ?_
            refine TL.valE rfl (by first | exact Val.load rfl rfl rfl rfl rfl | exact Val.loadC rfl rfl rfl) (by simp only [St.put, List.set_cons_succ, List.set_cons_zero, valC]; rfl) ?_
            refine TL.valE rfl (Val.eql rfl rfl rfl) (by simp only [St.put, List.set_cons_succ, List.set_cons_zero]; rfl) ?_
            refine TL.valE rfl (Val.assign 1 rfl rfl) (by simp only [St.put, List.set_cons_succ, List.set_cons_zero]; rfl) ?_
            refine TL.nil ?_
            show TC _ _ _ _ _ _
            refine TC.ret ?_
            exact ⟨.inr rfl, [_], [_], _, rfl, by decide, rfl, by simp [refV, refC, valC], rfl, resV (by simp_all [insOk] <;> rfl)⟩
          · refine TC.seq ?_
            -- region 12
            refine TC.region ?_
            refine TL.valE rfl (Val.eql rfl rfl rfl) (by simp only [St.put, List.set_cons_succ, List.set_cons_zero]; rfl) ?_
            refine TL.valE rfl (Val.assign 1 rfl rfl) (by simp only [St.put, List.set_cons_succ, List.set_cons_zero]; rfl) ?_
            refine TL.nil ?_
            show TC _ _ _ _ _ _
            refine TC.cond rfl (fun hb => ?_) (fun hb => ?_)
            · refine TC.seq ?_
              -- region 13
              refine TC.region ?_
              refine TL.valE rfl (by first | exact Val.field rfl rfl rfl | exact Val.fieldC rfl rfl rfl) (by simp only [St.put, List.set_cons_succ, List.set_cons_zero, List.getElem_toArray, List.getElem_cons_succ, List.getElem_cons_zero, Nat.zero_add, Nat.reduceAdd]; rfl) ?_
              refine TL.valE rfl (by first | exact Val.load rfl rfl rfl rfl rfl | exact Val.loadC rfl rfl rfl) (by simp only [St.put, List.set_cons_succ, List.set_cons_zero, valC]; rfl) ?_
              refine TL.callF (yes_none rfl) rfl rfl rfl rfl rfl rfl (impl_within_f _ _ _) (by repeat first | exact .nil | refine Snaps.cons (.ro _) ?_ | refine Snaps.cons (.aggRo rfl) ?_ | refine Snaps.cons (.cptr _) ?_ | refine Snaps.cons (.fn _) ?_ | refine Snaps.cons (.ownRef rfl (by first | assumption | exact w_IntS _ | exact w_IntSS _ | exact w_InsS _ | exact w_SlotS _ | exact w_GuestS _ | exact w_BareS _)) ?_ | refine Snaps.cons (.aggR (by repeat first | exact .nil | refine SnapCs.cons (.ro _) ?_ | refine SnapCs.cons (.ref rfl (by first | assumption | exact w_IntS _ | exact w_IntSS _ | exact w_InsS _ | exact w_SlotS _ | exact w_GuestS _ | exact w_BareS _)) ?_)) ?_) rfl (by simp only [St.put, List.set_cons_succ, List.set_cons_zero]; rfl) ?_
              refine TL.valE rfl (Val.assign 1 rfl rfl) (by simp only [St.put, List.set_cons_succ, List.set_cons_zero]; rfl) ?_
              refine TL.nil ?_
              show TC _ _ _ _ _ _
              refine TC.ret ?_
              exact ⟨.inr rfl, [_], [_], _, rfl, by decide, rfl, by simp [refV, refC, valC], rfl, resV (by simp_all [insOk] <;> rfl)⟩
            · refine TC.skip ?_
              show TC _ _ _ _ _ _
              refine TC.seq ?_
              -- region 14
              refine TC.region ?_
              refine TL.valE rfl (Val.assign 1 rfl rfl) (by simp only [St.put, List.set_cons_succ, List.set_cons_zero]; rfl) ?_
              refine TL.nil ?_
              show TC _ _ _ _ _ _
              refine TC.ret ?_
              exact ⟨.inr rfl, [_], [_], _, rfl, by decide, rfl, by simp [refV, refC, valC], rfl, resV (by simp_all [insOk] <;> rfl)⟩
      · -- region 8
        refine TC.region ?_
        refine TL.valE rfl (Val.eql rfl rfl rfl) (by simp only [St.put, List.set_cons_succ, List.set_cons_zero]; rfl) ?_
        refine TL.valE rfl (Val.assign 1 rfl rfl) (by simp only [St.put, List.set_cons_succ, List.set_cons_zero]; rfl) ?_
        refine TL.nil ?_
        show TC _ _ _ _ _ _
        refine TC.cond rfl (fun hb => ?_) (fun hb => ?_)
        · refine TC.seq ?_
          -- region 9
          refine TC.region ?_
          refine TL.valE rfl (by first | exact Val.field rfl rfl rfl | exact Val.fieldC rfl rfl rfl) (by simp only [St.put, List.set_cons_succ, List.set_cons_zero, List.getElem_toArray, List.getElem_cons_succ, List.getElem_cons_zero, Nat.zero_add, Nat.reduceAdd]; rfl) ?_
          refine TL.valE rfl (by first | exact Val.load rfl rfl rfl rfl rfl | exact Val.loadC rfl rfl rfl) (by simp only [St.put, List.set_cons_succ, List.set_cons_zero, valC]; rfl) ?_
          refine TL.callF (yes_none rfl) rfl rfl rfl rfl rfl rfl (impl_within_f _ _ _) (by repeat first | exact .nil | refine Snaps.cons (.ro _) ?_ | refine Snaps.cons (.aggRo rfl) ?_ | refine Snaps.cons (.cptr _) ?_ | refine Snaps.cons (.fn _) ?_ | refine Snaps.cons (.ownRef rfl (by first | assumption | exact w_IntS _ | exact w_IntSS _ | exact w_InsS _ | exact w_SlotS _ | exact w_GuestS _ | exact w_BareS _)) ?_ | refine Snaps.cons (.aggR (by repeat first | exact .nil | refine SnapCs.cons (.ro _) ?_ | refine SnapCs.cons (.ref rfl (by first | assumption | exact w_IntS _ | exact w_IntSS _ | exact w_InsS _ | exact w_SlotS _ | exact w_GuestS _ | exact w_BareS _)) ?_)) ?_) rfl (by simp only [St.put, List.set_cons_succ, List.set_cons_zero]; rfl) ?_
          refine TL.valE rfl (Val.assign 1 rfl rfl) (by simp only [St.put, List.set_cons_succ, List.set_cons_zero]; rfl) ?_
          refine TL.nil ?_
          show TC _ _ _ _ _ _
          refine TC.ret ?_
          exact ⟨.inr rfl, [_], [_], _, rfl, by decide, rfl, by simp [refV, refC, valC], rfl, resV (by simp_all [insOk] <;> rfl)⟩
        · refine TC.seq ?_
          -- region 10
          refine TC.region ?_
          refine TL.valE rfl (Val.eql rfl rfl rfl) (by simp only [St.put, List.set_cons_succ, List.set_cons_zero]; rfl) ?_
          refine TL.valE rfl (Val.assign 1 rfl rfl) (by simp only [St.put, List.set_cons_succ, List.set_cons_zero]; rfl) ?_
          refine TL.nil ?_
          show TC _ _ _ _ _ _
          refine TC.cond rfl (fun hb => ?_) (fun hb => ?_)
          · refine TC.seq ?_
            -- region 11
            refine TC.region ?_
            refine TL.valE rfl (by first | exact Val.field rfl rfl rfl | exact Val.fieldC rfl rfl rfl) (by simp only [St.put, List.set_cons_succ, List.set_cons_zero, List.getElem_toArray, List.getElem_cons_succ, List.getElem_cons_zero, Nat.zero_add, Nat.reduceAdd]; rfl) ?_
            refine TL.valE rfl (by first | exact Val.load rfl rfl rfl rfl rfl | exact Val.loadC rfl rfl rfl) (by simp only [St.put, List.set_cons_succ, List.set_cons_zero, valC]; rfl) ?_
            refine TL.valE rfl (Val.eql rfl rfl rfl) (by simp only [St.put, List.set_cons_succ, List.set_cons_zero]; rfl) ?_
            refine TL.valE rfl (Val.assign 1 rfl rfl) (by simp only [St.put, List.set_cons_succ, List.set_cons_zero]; rfl) ?_
            refine TL.nil ?_
            show TC _ _ _ _ _ _
            refine TC.ret ?_
            exact ⟨.inr rfl, [_], [_], _, rfl, by decide, rfl, by simp [refV, refC, valC], rfl, resV (by simp_all [insOk] <;> rfl)⟩
          · refine TC.seq ?_
            -- region 12
            refine TC.region ?_
            refine TL.valE rfl (Val.eql rfl rfl rfl) (by simp only [St.put, List.set_cons_succ, List.set_cons_zero]; rfl) ?_
            refine TL.valE rfl (Val.assign 1 rfl rfl) (by simp only [St.put, List.set_cons_succ, List.set_cons_zero]; rfl) ?_
            refine TL.nil ?_
            show TC _ _ _ _ _ _
            refine TC.cond rfl (fun hb => ?_) (fun hb => ?_)
            · refine TC.seq ?_
              -- region 13
              refine TC.region ?_
              refine TL.valE rfl (by first | exact Val.field rfl rfl rfl | exact Val.fieldC rfl rfl rfl) (by simp only [St.put, List.set_cons_succ, List.set_cons_zero, List.getElem_toArray, List.getElem_cons_succ, List.getElem_cons_zero, Nat.zero_add, Nat.reduceAdd]; rfl) ?_
              refine TL.valE rfl (by first | exact Val.load rfl rfl rfl rfl rfl | exact Val.loadC rfl rfl rfl) (by simp only [St.put, List.set_cons_succ, List.set_cons_zero, valC]; rfl) ?_
              refine TL.callF (yes_none rfl) rfl rfl rfl rfl rfl rfl (impl_within_f _ _ _) (by repeat first | exact .nil | refine Snaps.cons (.ro _) ?_ | refine Snaps.cons (.aggRo rfl) ?_ | refine Snaps.cons (.cptr _) ?_ | refine Snaps.cons (.fn _) ?_ | refine Snaps.cons (.ownRef rfl (by first | assumption | exact w_IntS _ | exact w_IntSS _ | exact w_InsS _ | exact w_SlotS _ | exact w_GuestS _ | exact w_BareS _)) ?_ | refine Snaps.cons (.aggR (by repeat first | exact .nil | refine SnapCs.cons (.ro _) ?_ | refine SnapCs.cons (.ref rfl (by first | assumption | exact w_IntS _ | exact w_IntSS _ | exact w_InsS _ | exact w_SlotS _ | exact w_GuestS _ | exact w_BareS _)) ?_)) ?_) rfl (by simp only [St.put, List.set_cons_succ, List.set_cons_zero]; rfl) ?_
              refine TL.valE rfl (Val.assign 1 rfl rfl) (by simp only [St.put, List.set_cons_succ, List.set_cons_zero]; rfl) ?_
              refine TL.nil ?_
              show TC _ _ _ _ _ _
              refine TC.ret ?_
              exact ⟨.inr rfl, [_], [_], _, rfl, by decide, rfl, by simp [refV, refC, valC], rfl, resV (by simp_all [insOk] <;> rfl)⟩
            · refine TC.skip ?_
              show TC _ _ _ _ _ _
              refine TC.seq ?_
              -- region 14
              refine TC.region ?_
              refine TL.valE rfl (Val.assign 1 rfl rfl) (by simp only [St.put, List.set_cons_succ, List.set_cons_zero]; rfl) ?_
              refine TL.nil ?_
              show TC _ _ _ _ _ _
              refine TC.ret ?_
              exact ⟨.inr rfl, [_], [_], _, rfl, by decide, rfl, by simp [refV, refC, valC], rfl, resV (by simp_all [insOk] <;> rfl)⟩
  · refine TC.seq ?_
    -- region 3
    refine TC.region ?_
    refine TL.valE rfl (Val.eql rfl rfl rfl) (by simp only [St.put, List.set_cons_succ, List.set_cons_zero]; rfl) ?_
    refine TL.valE rfl (Val.assign 1 rfl rfl) (by simp only [St.put, List.set_cons_succ, List.set_cons_zero]; rfl) ?_
    refine TL.nil ?_
    show TC _ _ _ _ _ _
    refine TC.cond rfl (fun hb => ?_) (fun hb => ?_)
    · refine TC.skip ?_
      show TC _ _ _ _ _ _
      refine TC.cond rfl (fun hb => ?_) (fun hb => ?_)
      · refine TC.seq ?_
        -- region 6
        refine TC.region ?_
        refine TL.valE rfl (by first | exact Val.field rfl rfl rfl | exact Val.fieldC rfl rfl rfl) (by simp only [St.put, List.set_cons_succ, List.set_cons_zero, List.getElem_toArray, List.getElem_cons_succ, List.getElem_cons_zero, Nat.zero_add, Nat.reduceAdd]; rfl) ?_
        refine TL.valE rfl (by first | exact Val.load rfl rfl rfl rfl rfl | exact Val.loadC rfl rfl rfl) (by simp only [St.put, List.set_cons_succ, List.set_cons_zero, valC]; rfl) ?_
        refine TL.callF (yes_none rfl) rfl rfl rfl rfl rfl rfl (impl_within_f _ _ _) (by repeat first | exact .nil | refine Snaps.cons (.ro _) ?_ | refine Snaps.cons (.aggRo rfl) ?_ | refine Snaps.cons (.cptr _) ?_ | refine Snaps.cons (.fn _) ?_ | refine Snaps.cons (.ownRef rfl (by first | assumption | exact w_IntS _ | exact w_IntSS _ | exact w_InsS _ | exact w_SlotS _ | exact w_GuestS _ | exact w_BareS _)) ?_ | refine Snaps.cons (.aggR (by repeat first | exact .nil | refine SnapCs.cons (.ro _) ?_ | refine SnapCs.cons (.ref rfl (by first | assumption | exact w_IntS _ | exact w_IntSS _ | exact w_InsS _ | exact w_SlotS _ | exact w_GuestS _ | exact w_BareS _)) ?_)) ?_) rfl (by simp only [St.put, List.set_cons_succ, List.set_cons_zero]; rfl) ?_
        refine TL.valE rfl (Val.assign 1 rfl rfl) (by simp only [St.put, List.set_cons_succ, List.set_cons_zero]; rfl) ?_
        refine TL.nil ?_
        show TC _ _ _ _ _ _
        refine TC.ret ?_
        exact ⟨.inr rfl, [_], [_], _, rfl, by decide, rfl, by simp [refV, refC, valC], rfl, resV (by simp_all [insOk] <;> rfl)⟩
      · refine TC.seq ?_
        refine TC.seq ?_
        -- region 7
        refine TC.region ?_
        refine TL.valE rfl (Val.eql rfl rfl rfl) (by simp only [St.put, List.set_cons_succ, List.set_cons_zero]; rfl) ?_
        refine TL.valE rfl (Val.assign 1 rfl rfl) (by simp only [St.put, List.set_cons_succ, List.set_cons_zero]; rfl) ?_
        refine TL.nil ?_
        show TC _ _ _ _ _ _
        refine TC.cond rfl (fun hb => ?_) (fun hb => ?_)
        · refine TC.skip ?_
          show TC _ _ _ _ _ _
          refine TC.cond rfl (fun hb => ?_) (fun hb => ?_)
          · refine TC.seq ?_
            -- region 9
            refine TC.region ?_
            refine TL.valE rfl (by first | exact Val.field rfl rfl rfl | exact Val.fieldC rfl rfl rfl) (by simp only [St.put, List.set_cons_succ, List.set_cons_zero, List.getElem_toArray, List.getElem_cons_succ, List.getElem_cons_zero, Nat.zero_add, Nat.reduceAdd]; rfl) ?_
            refine TL.valE rfl (by first | exact Val.load rfl rfl rfl rfl rfl | exact Val.loadC rfl rfl rfl) (by simp only [St.put, List.set_cons_succ, List.set_cons_zero, valC]; rfl) ?_
            refine TL.callF (yes_none rfl) rfl rfl rfl rfl rfl rfl (impl_within_f _ _ _) (by repeat first | exact .nil | refine Snaps.cons (.ro _) ?_ | refine Snaps.cons (.aggRo rfl) ?_ | refine Snaps.cons (.cptr _) ?_ | refine Snaps.cons (.fn _) ?_ | refine Snaps.cons (.ownRef rfl (by first | assumption | exact w_IntS _ | exact w_IntSS _ | exact w_InsS _ | exact w_SlotS _ | exact w_GuestS _ | exact w_BareS _)) ?_ | refine Snaps.cons (.aggR (by repeat first | exact .nil | refine SnapCs.cons (.ro _) ?_ | refine SnapCs.cons (.ref rfl (by first | assumption | exact w_IntS _ | exact w_IntSS _ | exact w_InsS _ | exact w_SlotS _ | exact w_GuestS _ | exact w_BareS _)) ?_)) ?_) rfl (by simp only [St.put, List.set_cons_succ, List.set_cons_zero]; rfl) ?_
            refine TL.valE rfl (Val.assign 1 rfl rfl) (by simp only [St.put, List.set_cons_succ, List.set_cons_zero]; rfl) ?_
            refine TL.nil ?_
            show TC _ _ _ _ _ _
            refine TC.ret ?_
            exact ⟨.inr rfl, [_], [_], _, rfl, by decide, rfl, by simp [refV, refC, valC], rfl, resV (by simp_all [insOk] <;> rfl)⟩
          · refine TC.seq ?_
            -- region 10
            refine TC.region ?_
            refine TL.valE rfl (Val.eql rfl rfl rfl) (by simp only [St.put, List.set_cons_succ, List.set_cons_zero]; rfl) ?_
            refine TL.valE rfl (Val.assign 1 rfl rfl) (by simp only [St.put, List.set_cons_succ, List.set_cons_zero]; rfl) ?_
            refine TL.nil ?_
            show TC _ _ _ _ _ _
            refine TC.cond rfl (fun hb => ?_) (fun hb => ?_)
            · refine TC.seq ?_
              -- region 11
              refine TC.region ?_
              refine TL.valE rfl (by first | exact Val.field rfl rfl rfl | exact Val.fieldC rfl rfl rfl) (by simp only [St.put, List.set_cons_succ, List.set_cons_zero, List.getElem_toArray, List.getElem_cons_succ, List.getElem_cons_zero, Nat.zero_add, Nat.reduceAdd]; rfl) ?_
              refine TL.valE rfl (by first | exact Val.load rfl rfl rfl rfl rfl | exact Val.loadC rfl rfl rfl) (by simp only [St.put, List.set_cons_succ, List.set_cons_zero, valC]; rfl) ?_
              refine TL.valE rfl (Val.eql rfl rfl rfl) (by simp only [St.put, List.set_cons_succ, List.set_cons_zero]; rfl) ?_
              refine TL.valE rfl (Val.assign 1 rfl rfl) (by simp only [St.put, List.set_cons_succ, List.set_cons_zero]; rfl) ?_
              refine TL.nil ?_
              show TC _ _ _ _ _ _
              refine TC.ret ?_
              exact ⟨.inr rfl, [_], [_], _, rfl, by decide, rfl, by simp [refV, refC, valC], rfl, resV (by simp_all [insOk] <;> rfl)⟩
            · refine TC.seq ?_
              -- region 12
              refine TC.region ?_
              refine TL.valE rfl (Val.eql rfl rfl rfl) (by simp only [St.put, List.set_cons_succ, List.set_cons_zero]; rfl) ?_
              refine TL.valE rfl (Val.assign 1 rfl rfl) (by simp only [St.put, List.set_cons_succ, List.set_cons_zero]; rfl) ?_
              refine TL.nil ?_
              show TC _ _ _ _ _ _
              refine TC.cond rfl (fun hb => ?_) (fun hb => ?_)
              · refine TC.seq ?_
                -- region 13
                refine TC.region ?_
                refine TL.valE rfl (by first | exact Val.field rfl rfl rfl | exact Val.fieldC rfl rfl rfl) (by simp only [St.put, List.set_cons_succ, List.set_cons_zero, List.getElem_toArray, List.getElem_cons_succ, List.getElem_cons_zero, Nat.zero_add, Nat.reduceAdd]; rfl) ?_
                refine TL.valE rfl (by first | exact Val.load rfl rfl rfl rfl rfl | exact Val.loadC rfl rfl rfl) (by simp only [St.put, List.set_cons_succ, List.set_cons_zero, valC]; rfl) ?_
                refine TL.callF (yes_none rfl) rfl rfl rfl rfl rfl rfl (impl_within_f _ _ _) (by repeat first | exact .nil | refine Snaps.cons (.ro _) ?_ | refine Snaps.cons (.aggRo rfl) ?_ | refine Snaps.cons (.cptr _) ?_ | refine Snaps.cons (.fn _) ?_ | refine Snaps.cons (.ownRef rfl (by first | assumption | exact w_IntS _ | exact w_IntSS _ | exact w_InsS _ | exact w_SlotS _ | exact w_GuestS _ | exact w_BareS _)) ?_ | refine Snaps.cons (.aggR (by repeat first | exact .nil | refine SnapCs.cons (.ro _) ?_ | refine SnapCs.cons (.ref rfl (by first | assumption | exact w_IntS _ | exact w_IntSS _ | exact w_InsS _ | exact w_SlotS _ | exact w_GuestS _ | exact w_BareS _)) ?_)) ?_) rfl (by simp only [St.put, List.set_cons_succ, List.set_cons_zero]; rfl) ?_
                refine TL.valE rfl (Val.assign 1 rfl rfl) (by simp only [St.put, List.set_cons_succ, List.set_cons_zero]; rfl) ?_
                refine TL.nil ?_
                show TC _ _ _ _ _ _
                refine TC.ret ?_
                exact ⟨.inr rfl, [_], [_], _, rfl, by decide, rfl, by simp [refV, refC, valC], rfl, resV (by simp_all [insOk] <;> rfl)⟩
              · refine TC.skip ?_
                show TC _ _ _ _ _ _
                refine TC.seq ?_
                -- region 14
                refine TC.region ?_
                refine TL.valE rfl (Val.assign 1 rfl rfl) (by simp only [St.put, List.set_cons_succ, List.set_cons_zero]; rfl) ?_
                refine TL.nil ?_
                show TC _ _ _ _ _ _
                refine TC.ret ?_
                exact ⟨.inr rfl, [_], [_], _, rfl, by decide, rfl, by simp [refV, refC, valC], rfl, resV (by simp_all [insOk] <;> rfl)⟩
        · -- region 8
          refine TC.region ?_
          refine TL.valE rfl (Val.eql rfl rfl rfl) (by simp only [St.put, List.set_cons_succ, List.set_cons_zero]; rfl) ?_
          refine TL.valE rfl (Val.assign 1 rfl rfl) (by simp only [St.put, List.set_cons_succ, List.set_cons_zero]; rfl) ?_
          refine TL.nil ?_
          show TC _ _ _ _ _ _
          refine TC.cond rfl (fun hb => ?_) (fun hb => ?_)
          · refine TC.seq ?_
            -- region 9
            refine TC.region ?_
            refine TL.valE rfl (by first | exact Val.field rfl rfl rfl | exact Val.fieldC rfl rfl rfl) (by simp only [St.put, List.set_cons_succ, List.set_cons_zero, List.getElem_toArray, List.getElem_cons_succ, List.getElem_cons_zero, Nat.zero_add, Nat.reduceAdd]; rfl) ?_
            refine TL.valE rfl (by first | exact Val.load rfl rfl rfl rfl rfl | exact Val.loadC rfl rfl rfl) (by simp only [St.put, List.set_cons_succ, List.set_cons_zero, valC]; rfl) ?_
            refine TL.callF (yes_none rfl) rfl rfl rfl rfl rfl rfl (impl_within_f _ _ _) (by repeat first | exact .nil | refine Snaps.cons (.ro _) ?_ | refine Snaps.cons (.aggRo rfl) ?_ | refine Snaps.cons (.cptr _) ?_ | refine Snaps.cons (.fn _) ?_ | refine Snaps.cons (.ownRef rfl (by first | assumption | exact w_IntS _ | exact w_IntSS _ | exact w_InsS _ | exact w_SlotS _ | exact w_GuestS _ | exact w_BareS _)) ?_ | refine Snaps.cons (.aggR (by repeat first | exact .nil | refine SnapCs.cons (.ro _) ?_ | refine SnapCs.cons (.ref rfl (by first | assumption | exact w_IntS _ | exact w_IntSS _ | exact w_InsS _ | exact w_SlotS _ | exact w_GuestS _ | exact w_BareS _)) ?_)) ?_) rfl (by simp only [St.put, List.set_cons_succ, List.set_cons_zero]; rfl) ?_
            refine TL.valE rfl (Val.assign 1 rfl rfl) (by simp only [St.put, List.set_cons_succ, List.set_cons_zero]; rfl) ?_
            refine TL.nil ?_
            show TC _ _ _ _ _ _
            refine TC.ret ?_
            exact ⟨.inr rfl, [_], [_], _, rfl, by decide, rfl, by simp [refV, refC, valC], rfl, resV (by simp_all [insOk] <;> rfl)⟩
          · refine TC.seq ?_
            -- region 10
            refine TC.region ?_
            refine TL.valE rfl (Val.eql rfl rfl rfl) (by simp only [St.put, List.set_cons_succ, List.set_cons_zero]; rfl) ?_
            refine TL.valE rfl (Val.assign 1 rfl rfl) (by simp only [St.put, List.set_cons_succ, List.set_cons_zero]; rfl) ?_
            refine TL.nil ?_
            show TC _ _ _ _ _ _
            refine TC.cond rfl (fun hb => ?_) (fun hb => ?_)
            · refine TC.seq ?_
              -- region 11
              refine TC.region ?_
              refine TL.valE rfl (by first | exact Val.field rfl rfl rfl | exact Val.fieldC rfl rfl rfl) (by simp only [St.put, List.set_cons_succ, List.set_cons_zero, List.getElem_toArray, List.getElem_cons_succ, List.getElem_cons_zero, Nat.zero_add, Nat.reduceAdd]; rfl) ?_
              refine TL.valE rfl (by first | exact Val.load rfl rfl rfl rfl rfl | exact Val.loadC rfl rfl rfl) (by simp only [St.put, List.set_cons_succ, List.set_cons_zero, valC]; rfl) ?_
              refine TL.valE rfl (Val.eql rfl rfl rfl) (by simp only [St.put, List.set_cons_succ, List.set_cons_zero]; rfl) ?_
              refine TL.valE rfl (Val.assign 1 rfl rfl) (by simp only [St.put, List.set_cons_succ, List.set_cons_zero]; rfl) ?_
              refine TL.nil ?_
              show TC _ _ _ _ _ _
              refine TC.ret ?_
              exact ⟨.inr rfl, [_], [_], _, rfl, by decide, rfl, by simp [refV, refC, valC], rfl, resV (by simp_all [insOk] <;> rfl)⟩
            · refine TC.seq ?_
              -- region 12
              refine TC.region ?_
              refine TL.valE rfl (Val.eql rfl rfl rfl) (by simp only [St.put, List.set_cons_succ, List.set_cons_zero]; rfl) ?_
              refine TL.valE rfl (Val.assign 1 rfl rfl) (by simp only [St.put, List.set_cons_succ, List.set_cons_zero]; rfl) ?_
              refine TL.nil ?_
              show TC _ _ _ _ _ _
              refine TC.cond rfl (fun hb => ?_) (fun hb => ?_)
              · refine TC.seq ?_
                -- region 13
                refine TC.region ?_
                refine TL.valE rfl (by first | exact Val.field rfl rfl rfl | exact Val.fieldC rfl rfl rfl) (by simp only [St.put, List.set_cons_succ, List.set_cons_zero, List.getElem_toArray, List.getElem_cons_succ, List.getElem_cons_zero, Nat.zero_add, Nat.reduceAdd]; rfl) ?_
                refine TL.valE rfl (by first | exact Val.load rfl rfl rfl rfl rfl | exact Val.loadC rfl rfl rfl) (by simp only [St.put, List.set_cons_succ, List.set_cons_zero, valC]; rfl) ?_
                refine TL.callF (yes_none rfl) rfl rfl rfl rfl rfl rfl (impl_within_f _ _ _) (by repeat first | exact .nil | refine Snaps.cons (.ro _) ?_ | refine Snaps.cons (.aggRo rfl) ?_ | refine Snaps.cons (.cptr _) ?_ | refine Snaps.cons (.fn _) ?_ | refine Snaps.cons (.ownRef rfl (by first | assumption | exact w_IntS _ | exact w_IntSS _ | exact w_InsS _ | exact w_SlotS _ | exact w_GuestS _ | exact w_BareS _)) ?_ | refine Snaps.cons (.aggR (by repeat first | exact .nil | refine SnapCs.cons (.ro _) ?_ | refine SnapCs.cons (.ref rfl (by first | assumption | exact w_IntS _ | exact w_IntSS _ | exact w_InsS _ | exact w_SlotS _ | exact w_GuestS _ | exact w_BareS _)) ?_)) ?_) rfl (by simp only [St.put, List.set_cons_succ, List.set_cons_zero]; rfl) ?_
                refine TL.valE rfl (Val.assign 1 rfl rfl) (by simp only [St.put, List.set_cons_succ, List.set_cons_zero]; rfl) ?_
                refine TL.nil ?_
                show TC _ _ _ _ _ _
                refine TC.ret ?_
                exact ⟨.inr rfl, [_], [_], _, rfl, by decide, rfl, by simp [refV, refC, valC], rfl, resV (by simp_all [insOk] <;> rfl)⟩
              · refine TC.skip ?_
                show TC _ _ _ _ _ _
                refine TC.seq ?_
                -- region 14
                refine TC.region ?_
                refine TL.valE rfl (Val.assign 1 rfl rfl) (by simp only [St.put, List.set_cons_succ, List.set_cons_zero]; rfl) ?_
                refine TL.nil ?_
                show TC _ _ _ _ _ _
                refine TC.ret ?_
                exact ⟨.inr rfl, [_], [_], _, rfl, by decide, rfl, by simp [refV, refC, valC], rfl, resV (by simp_all [insOk] <;> rfl)⟩
    · refine TC.seq ?_
      -- region 4
      refine TC.region ?_
      refine TL.valE rfl (Val.eql rfl rfl rfl) (by simp only [St.put, List.set_cons_succ, List.set_cons_zero]; rfl) ?_
      refine TL.valE rfl (Val.assign 1 rfl rfl) (by simp only [St.put, List.set_cons_succ, List.set_cons_zero]; rfl) ?_
      refine TL.nil ?_
      show TC _ _ _ _ _ _
      refine TC.cond rfl (fun hb => ?_) (fun hb => ?_)
      · refine TC.skip ?_
        show TC _ _ _ _ _ _
        refine TC.cond rfl (fun hb => ?_) (fun hb => ?_)
        · refine TC.seq ?_
          -- region 6
          refine TC.region ?_
          refine TL.valE rfl (by first | exact Val.field rfl rfl rfl | exact Val.fieldC rfl rfl rfl) (by simp only [St.put, List.set_cons_succ, List.set_cons_zero, List.getElem_toArray, List.getElem_cons_succ, List.getElem_cons_zero, Nat.zero_add, Nat.reduceAdd]; rfl) ?_
          refine TL.valE rfl (by first | exact Val.load rfl rfl rfl rfl rfl | exact Val.loadC rfl rfl rfl) (by simp only [St.put, List.set_cons_succ, List.set_cons_zero, valC]; rfl) ?_
          refine TL.callF (yes_none rfl) rfl rfl rfl rfl rfl rfl (impl_within_f _ _ _) (by repeat first | exact .nil | refine Snaps.cons (.ro _) ?_ | refine Snaps.cons (.aggRo rfl) ?_ | refine Snaps.cons (.cptr _) ?_ | refine Snaps.cons (.fn _) ?_ | refine Snaps.cons (.ownRef rfl (by first | assumption | exact w_IntS _ | exact w_IntSS _ | exact w_InsS _ | exact w_SlotS _ | exact w_GuestS _ | exact w_BareS _)) ?_ | refine Snaps.cons (.aggR (by repeat first | exact .nil | refine SnapCs.cons (.ro _) ?_ | refine SnapCs.cons (.ref rfl (by first | assumption | exact w_IntS _ | exact w_IntSS _ | exact w_InsS _ | exact w_SlotS _ | exact w_GuestS _ | exact w_BareS _)) ?_)) ?_) rfl (by simp only [St.put, List.set_cons_succ, List.set_cons_zero]; rfl) ?_
          refine TL.valE rfl (Val.assign 1 rfl rfl) (by simp only [St.put, List.set_cons_succ, List.set_cons_zero]; rfl) ?_
          refine TL.nil ?_
          show TC _ _ _ _ _ _
          refine TC.ret ?_
          exact ⟨.inr rfl, [_], [_], _, rfl, by decide, rfl, by simp [refV, refC, valC], rfl, resV (by simp_all [insOk] <;> rfl)⟩
        · refine TC.seq ?_
          refine TC.seq ?_
          -- region 7
          refine TC.region ?_
          refine TL.valE rfl (Val.eql rfl rfl rfl) (by simp only [St.put, List.set_cons_succ, List.set_cons_zero]; rfl) ?_
          refine TL.valE rfl (Val.assign 1 rfl rfl) (by simp only [St.put, List.set_cons_succ, List.set_cons_zero]; rfl) ?_
          refine TL.nil ?_
          show TC _ _ _ _ _ _
          refine TC.cond rfl (fun hb => ?_) (fun hb => ?_)
          · refine TC.skip ?_
            show TC _ _ _ _ _ _
            refine TC.cond rfl (fun hb => ?_) (fun hb => ?_)
            · refine TC.seq ?_
              -- region 9
              refine TC.region ?_
              refine TL.valE rfl (by first | exact Val.field rfl rfl rfl | exact Val.fieldC rfl rfl rfl) (by simp only [St.put, List.set_cons_succ, List.set_cons_zero, List.getElem_toArray, List.getElem_cons_succ, List.getElem_cons_zero, Nat.zero_add, Nat.reduceAdd]; rfl) ?_
              refine TL.valE rfl (by first | exact Val.load rfl rfl rfl rfl rfl | exact Val.loadC rfl rfl rfl) (by simp only [St.put, List.set_cons_succ, List.set_cons_zero, valC]; rfl) ?_
              refine TL.callF (yes_none rfl) rfl rfl rfl rfl rfl rfl (impl_within_f _ _ _) (by repeat first | exact .nil | refine Snaps.cons (.ro _) ?_ | refine Snaps.cons (.aggRo rfl) ?_ | refine Snaps.cons (.cptr _) ?_ | refine Snaps.cons (.fn _) ?_ | refine Snaps.cons (.ownRef rfl (by first | assumption | exact w_IntS _ | exact w_IntSS _ | exact w_InsS _ | exact w_SlotS _ | exact w_GuestS _ | exact w_BareS _)) ?_ | refine Snaps.cons (.aggR (by repeat first | exact .nil | refine SnapCs.cons (.ro _) ?_ | refine SnapCs.cons (.ref rfl (by first | assumption | exact w_IntS _ | exact w_IntSS _ | exact w_InsS _ | exact w_SlotS _ | exact w_GuestS _ | exact w_BareS _)) ?_)) ?_) rfl (by simp only [St.put, List.set_cons_succ, List.set_cons_zero]; rfl) ?_
              refine TL.valE rfl (Val.assign 1 rfl rfl) (by simp only [St.put, List.set_cons_succ, List.set_cons_zero]; rfl) ?_
              refine TL.nil ?_
              show TC _ _ _ _ _ _
              refine TC.ret ?_
              exact ⟨.inr rfl, [_], [_], _, rfl, by decide, rfl, by simp [refV, refC, valC], rfl, resV (by simp_all [insOk] <;> rfl)⟩
            · refine TC.seq ?_
              -- region 10
              refine TC.region ?_
              refine TL.valE rfl (Val.eql rfl rfl rfl) (by simp only [St.put, List.set_cons_succ, List.set_cons_zero]; rfl) ?_
              refine TL.valE rfl (Val.assign 1 rfl rfl) (by simp only [St.put, List.set_cons_succ, List.set_cons_zero]; rfl) ?_
              refine TL.nil ?_
              show TC _ _ _ _ _ _
              refine TC.cond rfl (fun hb => ?_) (fun hb => ?_)
              · refine TC.seq ?_
                -- region 11
                refine TC.region ?_
                refine TL.valE rfl (by first | exact Val.field rfl rfl rfl | exact Val.fieldC rfl rfl rfl) (by simp only [St.put, List.set_cons_succ, List.set_cons_zero, List.getElem_toArray, List.getElem_cons_succ, List.getElem_cons_zero, Nat.zero_add, Nat.reduceAdd]; rfl) ?_
                refine TL.valE rfl (by first | exact Val.load rfl rfl rfl rfl rfl | exact Val.loadC rfl rfl rfl) (by simp only [St.put, List.set_cons_succ, List.set_cons_zero, valC]; rfl) ?_
                refine TL.valE rfl (Val.eql rfl rfl rfl) (by simp only [St.put, List.set_cons_succ, List.set_cons_zero]; rfl) ?_
                refine TL.valE rfl (Val.assign 1 rfl rfl) (by simp only [St.put, List.set_cons_succ, List.set_cons_zero]; rfl) ?_
                refine TL.nil ?_
                show TC _ _ _ _ _ _
                refine TC.ret ?_
                exact ⟨.inr rfl, [_], [_], _, rfl, by decide, rfl, by simp [refV, refC, valC], rfl, resV (by simp_all [insOk] <;> rfl)⟩
              · refine TC.seq ?_
                -- region 12
                refine TC.region ?_
                refine TL.valE rfl (Val.eql rfl rfl rfl) (by simp only [St.put, List.set_cons_succ, List.set_cons_zero]; rfl) ?_
                refine TL.valE rfl (Val.assign 1 rfl rfl) (by simp only [St.put, List.set_cons_succ, List.set_cons_zero]; rfl) ?_
                refine TL.nil ?_
                show TC _ _ _ _ _ _
                refine TC.cond rfl (fun hb => ?_) (fun hb => ?_)
                · refine TC.seq ?_
                  -- region 13
                  refine TC.region ?_
                  refine TL.valE rfl (by first | exact Val.field rfl rfl rfl | exact Val.fieldC rfl rfl rfl) (by simp only [St.put, List.set_cons_succ, List.set_cons_zero, List.getElem_toArray, List.getElem_cons_succ, List.getElem_cons_zero, Nat.zero_add, Nat.reduceAdd]; rfl) ?_
                  refine TL.valE rfl (by first | exact Val.load rfl rfl rfl rfl rfl | exact Val.loadC rfl rfl rfl) (by simp only [St.put, List.set_cons_succ, List.set_cons_zero, valC]; rfl) ?_
                  refine TL.callF (yes_none rfl) rfl rfl rfl rfl rfl rfl (impl_within_f _ _ _) (by repeat first | exact .nil | refine Snaps.cons (.ro _) ?_ | refine Snaps.cons (.aggRo rfl) ?_ | refine Snaps.cons (.cptr _) ?_ | refine Snaps.cons (.fn _) ?_ | refine Snaps.cons (.ownRef rfl (by first | assumption | exact w_IntS _ | exact w_IntSS _ | exact w_InsS _ | exact w_SlotS _ | exact w_GuestS _ | exact w_BareS _)) ?_ | refine Snaps.cons (.aggR (by repeat first | exact .nil | refine SnapCs.cons (.ro _) ?_ | refine SnapCs.cons (.ref rfl (by first | assumption | exact w_IntS _ | exact w_IntSS _ | exact w_InsS _ | exact w_SlotS _ | exact w_GuestS _ | exact w_BareS _)) ?_)) ?_) rfl (by simp only [St.put, List.set_cons_succ, List.set_cons_zero]; rfl) ?_
                  refine TL.valE rfl (Val.assign 1 rfl rfl) (by simp only [St.put, List.set_cons_succ, List.set_cons_zero]; rfl) ?_
                  refine TL.nil ?_
                  show TC _ _ _ _ _ _
                  refine TC.ret ?_
                  exact ⟨.inr rfl, [_], [_], _, rfl, by decide, rfl, by simp [refV, refC, valC], rfl, resV (by simp_all [insOk] <;> rfl)⟩
                · refine TC.skip ?_
                  show TC _ _ _ _ _ _
                  refine TC.seq ?_
                  -- region 14
                  refine TC.region ?_
                  refine TL.valE rfl (Val.assign 1 rfl rfl) (by simp only [St.put, List.set_cons_succ, List.set_cons_zero]; rfl) ?_
                  refine TL.nil ?_
                  show TC _ _ _ _ _ _
                  refine TC.ret ?_
                  exact ⟨.inr rfl, [_], [_], _, rfl, by decide, rfl, by simp [refV, refC, valC], rfl, resV (by simp_all [insOk] <;> rfl)⟩
          · -- region 8
            refine TC.region ?_
            refine TL.valE rfl (Val.eql rfl rfl rfl) (by simp only [St.put, List.set_cons_succ, List.set_cons_zero]; rfl) ?_
            refine TL.valE rfl (Val.assign 1 rfl rfl) (by simp only [St.put, List.set_cons_succ, List.set_cons_zero]; rfl) ?_
            refine TL.nil ?_
            show TC _ _ _ _ _ _
            refine TC.cond rfl (fun hb => ?_) (fun hb => ?_)
            · refine TC.seq ?_
              -- region 9
              refine TC.region ?_
              refine TL.valE rfl (by first | exact Val.field rfl rfl rfl | exact Val.fieldC rfl rfl rfl) (by simp only [St.put, List.set_cons_succ, List.set_cons_zero, List.getElem_toArray, List.getElem_cons_succ, List.getElem_cons_zero, Nat.zero_add, Nat.reduceAdd]; rfl) ?_
              refine TL.valE rfl (by first | exact Val.load rfl rfl rfl rfl rfl | exact Val.loadC rfl rfl rfl) (by simp only [St.put, List.set_cons_succ, List.set_cons_zero, valC]; rfl) ?_
              refine TL.callF (yes_none rfl) rfl rfl rfl rfl rfl rfl (impl_within_f _ _ _) (by repeat first | exact .nil | refine Snaps.cons (.ro _) ?_ | refine Snaps.cons (.aggRo rfl) ?_ | refine Snaps.cons (.cptr _) ?_ | refine Snaps.cons (.fn _) ?_ | refine Snaps.cons (.ownRef rfl (by first | assumption | exact w_IntS _ | exact w_IntSS _ | exact w_InsS _ | exact w_SlotS _ | exact w_GuestS _ | exact w_BareS _)) ?_ | refine Snaps.cons (.aggR (by repeat first | exact .nil | refine SnapCs.cons (.ro _) ?_ | refine SnapCs.cons (.ref rfl (by first | assumption | exact w_IntS _ | exact w_IntSS _ | exact w_InsS _ | exact w_SlotS _ | exact w_GuestS _ | exact w_BareS _)) ?_)) ?_) rfl (by simp only [St.put, List.set_cons_succ, List.set_cons_zero]; rfl) ?_
              refine TL.valE rfl (Val.assign 1 rfl rfl) (by simp only [St.put, List.set_cons_succ, List.set_cons_zero]; rfl) ?_
              refine TL.nil ?_
              show TC _ _ _ _ _ _
              refine TC.ret ?_
              exact ⟨.inr rfl, [_], [_], _, rfl, by decide, rfl, by simp [refV, refC, valC], rfl, resV (by simp_all [insOk] <;> rfl)⟩
            · refine TC.seq ?_
              -- region 10
              refine TC.region ?_
              refine TL.valE rfl (Val.eql rfl rfl rfl) (by simp only [St.put, List.set_cons_succ, List.set_cons_zero]; rfl) ?_
              refine TL.valE rfl (Val.assign 1 rfl rfl) (by simp only [St.put, List.set_cons_succ, List.set_cons_zero]; rfl) ?_
              refine TL.nil ?_
              show TC _ _ _ _ _ _
              refine TC.cond rfl (fun hb => ?_) (fun hb => ?_)
              · refine TC.seq ?_
                -- region 11
                refine TC.region ?_
                refine TL.valE rfl (by first | exact Val.field rfl rfl rfl | exact Val.fieldC rfl rfl rfl) (by simp only [St.put, List.set_cons_succ, List.set_cons_zero, List.getElem_toArray, List.getElem_cons_succ, List.getElem_cons_zero, Nat.zero_add, Nat.reduceAdd]; rfl) ?_
                refine TL.valE rfl (by first | exact Val.load rfl rfl rfl rfl rfl | exact Val.loadC rfl rfl rfl) (by simp only [St.put, List.set_cons_succ, List.set_cons_zero, valC]; rfl) ?_
                refine TL.valE rfl (Val.eql rfl rfl rfl) (by simp only [St.put, List.set_cons_succ, List.set_cons_zero]; rfl) ?_
                refine TL.valE rfl (Val.assign 1 rfl rfl) (by simp only [St.put, List.set_cons_succ, List.set_cons_zero]; rfl) ?_
                refine TL.nil ?_
                show TC _ _ _ _ _ _
                refine TC.ret ?_
                exact ⟨.inr rfl, [_], [_], _, rfl, by decide, rfl, by simp [refV, refC, valC], rfl, resV (by simp_all [insOk] <;> rfl)⟩
              · refine TC.seq ?_
                -- region 12
                refine TC.region ?_
                refine TL.valE rfl (Val.eql rfl rfl rfl) (by simp only [St.put, List.set_cons_succ, List.set_cons_zero]; rfl) ?_
                refine TL.valE rfl (Val.assign 1 rfl rfl) (by simp only [St.put, List.set_cons_succ, List.set_cons_zero]; rfl) ?_
                refine TL.nil ?_
                show TC _ _ _ _ _ _
                refine TC.cond rfl (fun hb => ?_) (fun hb => ?_)
                · refine TC.seq ?_
                  -- region 13
                  refine TC.region ?_
                  refine TL.valE rfl (by first | exact Val.field rfl rfl rfl | exact Val.fieldC rfl rfl rfl) (by simp only [St.put, List.set_cons_succ, List.set_cons_zero, List.getElem_toArray, List.getElem_cons_succ, List.getElem_cons_zero, Nat.zero_add, Nat.reduceAdd]; rfl) ?_
                  refine TL.valE rfl (by first | exact Val.load rfl rfl rfl rfl rfl | exact Val.loadC rfl rfl rfl) (by simp only [St.put, List.set_cons_succ, List.set_cons_zero, valC]; rfl) ?_
                  refine TL.callF (yes_none rfl) rfl rfl rfl rfl rfl rfl (impl_within_f _ _ _) (by repeat first | exact .nil | refine Snaps.cons (.ro _) ?_ | refine Snaps.cons (.aggRo rfl) ?_ | refine Snaps.cons (.cptr _) ?_ | refine Snaps.cons (.fn _) ?_ | refine Snaps.cons (.ownRef rfl (by first | assumption | exact w_IntS _ | exact w_IntSS _ | exact w_InsS _ | exact w_SlotS _ | exact w_GuestS _ | exact w_BareS _)) ?_ | refine Snaps.cons (.aggR (by repeat first | exact .nil | refine SnapCs.cons (.ro _) ?_ | refine SnapCs.cons (.ref rfl (by first | assumption | exact w_IntS _ | exact w_IntSS _ | exact w_InsS _ | exact w_SlotS _ | exact w_GuestS _ | exact w_BareS _)) ?_)) ?_) rfl (by simp only [St.put, List.set_cons_succ, List.set_cons_zero]; rfl) ?_
                  refine TL.valE rfl (Val.assign 1 rfl rfl) (by simp only [St.put, List.set_cons_succ, List.set_cons_zero]; rfl) ?_
                  refine TL.nil ?_
                  show TC _ _ _ _ _ _
                  refine TC.ret ?_
                  exact ⟨.inr rfl, [_], [_], _, rfl, by decide, rfl, by simp [refV, refC, valC], rfl, resV (by simp_all [insOk] <;> rfl)⟩
                · refine TC.skip ?_
                  show TC _ _ _ _ _ _
                  refine TC.seq ?_
                  -- region 14
                  refine TC.region ?_
                  refine TL.valE rfl (Val.assign 1 rfl rfl) (by simp only [St.put, List.set_cons_succ, List.set_cons_zero]; rfl) ?_
                  refine TL.nil ?_
                  show TC _ _ _ _ _ _
                  refine TC.ret ?_
                  exact ⟨.inr rfl, [_], [_], _, rfl, by decide, rfl, by simp [refV, refC, valC], rfl, resV (by simp_all [insOk] <;> rfl)⟩
      · -- region 5
        refine TC.region ?_
        refine TL.valE rfl (Val.eql rfl rfl rfl) (by simp only [St.put, List.set_cons_succ, List.set_cons_zero]; rfl) ?_
        refine TL.valE rfl (Val.assign 1 rfl rfl) (by simp only [St.put, List.set_cons_succ, List.set_cons_zero]; rfl) ?_
        refine TL.nil ?_
        show TC _ _ _ _ _ _
        refine TC.cond rfl (fun hb => ?_) (fun hb => ?_)
        · refine TC.seq ?_
          -- region 6
          refine TC.region ?_
          refine TL.valE rfl (by first | exact Val.field rfl rfl rfl | exact Val.fieldC rfl rfl rfl) (by simp only [St.put, List.set_cons_succ, List.set_cons_zero, List.getElem_toArray, List.getElem_cons_succ, List.getElem_cons_zero, Nat.zero_add, Nat.reduceAdd]; rfl) ?_
          refine TL.valE rfl (by first | exact Val.load rfl rfl rfl rfl rfl | exact Val.loadC rfl rfl rfl) (by simp only [St.put, List.set_cons_succ, List.set_cons_zero, valC]; rfl) ?_
          refine TL.callF (yes_none rfl) rfl rfl rfl rfl rfl rfl (impl_within_f _ _ _) (by repeat first | exact .nil | refine Snaps.cons (.ro _) ?_ | refine Snaps.cons (.aggRo rfl) ?_ | refine Snaps.cons (.cptr _) ?_ | refine Snaps.cons (.fn _) ?_ | refine Snaps.cons (.ownRef rfl (by first | assumption | exact w_IntS _ | exact w_IntSS _ | exact w_InsS _ | exact w_SlotS _ | exact w_GuestS _ | exact w_BareS _)) ?_ | refine Snaps.cons (.aggR (by repeat first | exact .nil | refine SnapCs.cons (.ro _) ?_ | refine SnapCs.cons (.ref rfl (by first | assumption | exact w_IntS _ | exact w_IntSS _ | exact w_InsS _ | exact w_SlotS _ | exact w_GuestS _ | exact w_BareS _)) ?_)) ?_) rfl (by simp only [St.put, List.set_cons_succ, List.set_cons_zero]; rfl) ?_
          refine TL.valE rfl (Val.assign 1 rfl rfl) (by simp only [St.put, List.set_cons_succ, List.set_cons_zero]; rfl) ?_
          refine TL.nil ?_
          show TC _ _ _ _ _ _
          refine TC.ret ?_
          exact ⟨.inr rfl, [_], [_], _, rfl, by decide, rfl, by simp [refV, refC, valC], rfl, resV (by simp_all [insOk] <;> rfl)⟩
        · refine TC.seq ?_
          refine TC.seq ?_
          -- region 7
          refine TC.region ?_
          refine TL.valE rfl (Val.eql rfl rfl rfl) (by simp only [St.put, List.set_cons_succ, List.set_cons_zero]; rfl) ?_
          refine TL.valE rfl (Val.assign 1 rfl rfl) (by simp only [St.put, List.set_cons_succ, List.set_cons_zero]; rfl) ?_
          refine TL.nil ?_
          show TC _ _ _ _ _ _
          refine TC.cond rfl (fun hb => ?_) (fun hb => ?_)
          · refine TC.skip ?_
            show TC _ _ _ _ _ _
            refine TC.cond rfl (fun hb => ?_) (fun hb => ?_)
            · refine TC.seq ?_
              -- region 9
              refine TC.region ?_
              refine TL.valE rfl (by first | exact Val.field rfl rfl rfl | exact Val.fieldC rfl rfl rfl) (by simp only [St.put, List.set_cons_succ, List.set_cons_zero, List.getElem_toArray, List.getElem_cons_succ, List.getElem_cons_zero, Nat.zero_add, Nat.reduceAdd]; rfl) ?_
              refine TL.valE rfl (by first | exact Val.load rfl rfl rfl rfl rfl | exact Val.loadC rfl rfl rfl) (by simp only [St.put, List.set_cons_succ, List.set_cons_zero, valC]; rfl) ?_
              refine TL.callF (yes_none rfl) rfl rfl rfl rfl rfl rfl (impl_within_f _ _ _) (by repeat first | exact .nil | refine Snaps.cons (.ro _) ?_ | refine Snaps.cons (.aggRo rfl) ?_ | refine Snaps.cons (.cptr _) ?_ | refine Snaps.cons (.fn _) ?_ | refine Snaps.cons (.ownRef rfl (by first | assumption | exact w_IntS _ | exact w_IntSS _ | exact w_InsS _ | exact w_SlotS _ | exact w_GuestS _ | exact w_BareS _)) ?_ | refine Snaps.cons (.aggR (by repeat first | exact .nil | refine SnapCs.cons (.ro _) ?_ | refine SnapCs.cons (.ref rfl (by first | assumption | exact w_IntS _ | exact w_IntSS _ | exact w_InsS _ | exact w_SlotS _ | exact w_GuestS _ | exact w_BareS _)) ?_)) ?_) rfl (by simp only [St.put, List.set_cons_succ, List.set_cons_zero]; rfl) ?_
              refine TL.valE rfl (Val.assign 1 rfl rfl) (by simp only [St.put, List.set_cons_succ, List.set_cons_zero]; rfl) ?_
              refine TL.nil ?_
              show TC _ _ _ _ _ _
              refine TC.ret ?_
              exact ⟨.inr rfl, [_], [_], _, rfl, by decide, rfl, by simp [refV, refC, valC], rfl, resV (by simp_all [insOk] <;> rfl)⟩
            · refine TC.seq ?_
              -- region 10
              refine TC.region ?_
              refine TL.valE rfl (Val.eql rfl rfl rfl) (by simp only [St.put, List.set_cons_succ, List.set_cons_zero]; rfl) ?_
              refine TL.valE rfl (Val.assign 1 rfl rfl) (by simp only [St.put, List.set_cons_succ, List.set_cons_zero]; rfl) ?_
              refine TL.nil ?_
              show TC _ _ _ _ _ _
              refine TC.cond rfl (fun hb => ?_) (fun hb => ?_)
              · refine TC.seq ?_
                -- region 11
                refine TC.region ?_
                refine TL.valE rfl (by first | exact Val.field rfl rfl rfl | exact Val.fieldC rfl rfl rfl) (by simp only [St.put, List.set_cons_succ, List.set_cons_zero, List.getElem_toArray, List.getElem_cons_succ, List.getElem_cons_zero, Nat.zero_add, Nat.reduceAdd]; rfl) ?_
                refine TL.valE rfl (by first | exact Val.load rfl rfl rfl rfl rfl | exact Val.loadC rfl rfl rfl) (by simp only [St.put, List.set_cons_succ, List.set_cons_zero, valC]; rfl) ?_
                refine TL.valE rfl (Val.eql rfl rfl rfl) (by simp only [St.put, List.set_cons_succ, List.set_cons_zero]; rfl) ?_
                refine TL.valE rfl (Val.assign 1 rfl rfl) (by simp only [St.put, List.set_cons_succ, List.set_cons_zero]; rfl) ?_
                refine TL.nil ?_
                show TC _ _ _ _ _ _
                refine TC.ret ?_
                exact ⟨.inr rfl, [_], [_], _, rfl, by decide, rfl, by simp [refV, refC, valC], rfl, resV (by simp_all [insOk] <;> rfl)⟩
              · refine TC.seq ?_
                -- region 12
                refine TC.region ?_
                refine TL.valE rfl (Val.eql rfl rfl rfl) (by simp only [St.put, List.set_cons_succ, List.set_cons_zero]; rfl) ?_
                refine TL.valE rfl (Val.assign 1 rfl rfl) (by simp only [St.put, List.set_cons_succ, List.set_cons_zero]; rfl) ?_
                refine TL.nil ?_
                show TC _ _ _ _ _ _
                refine TC.cond rfl (fun hb => ?_) (fun hb => ?_)
                · refine TC.seq ?_
                  -- region 13
                  refine TC.region ?_
                  refine TL.valE rfl (by first | exact Val.field rfl rfl rfl | exact Val.fieldC rfl rfl rfl) (by simp only [St.put, List.set_cons_succ, List.set_cons_zero, List.getElem_toArray, List.getElem_cons_succ, List.getElem_cons_zero, Nat.zero_add, Nat.reduceAdd]; rfl) ?_
                  refine TL.valE rfl (by first | exact Val.load rfl rfl rfl rfl rfl | exact Val.loadC rfl rfl rfl) (by simp only [St.put, List.set_cons_succ, List.set_cons_zero, valC]; rfl) ?_
                  refine TL.callF (yes_none rfl) rfl rfl rfl rfl rfl rfl (impl_within_f _ _ _) (by repeat first | exact .nil | refine Snaps.cons (.ro _) ?_ | refine Snaps.cons (.aggRo rfl) ?_ | refine Snaps.cons (.cptr _) ?_ | refine Snaps.cons (.fn _) ?_ | refine Snaps.cons (.ownRef rfl (by first | assumption | exact w_IntS _ | exact w_IntSS _ | exact w_InsS _ | exact w_SlotS _ | exact w_GuestS _ | exact w_BareS _)) ?_ | refine Snaps.cons (.aggR (by repeat first | exact .nil | refine SnapCs.cons (.ro _) ?_ | refine SnapCs.cons (.ref rfl (by first | assumption | exact w_IntS _ | exact w_IntSS _ | exact w_InsS _ | exact w_SlotS _ | exact w_GuestS _ | exact w_BareS _)) ?_)) ?_) rfl (by simp only [St.put, List.set_cons_succ, List.set_cons_zero]; rfl) ?_
                  refine TL.valE rfl (Val.assign 1 rfl rfl) (by simp only [St.put, List.set_cons_succ, List.set_cons_zero]; rfl) ?_
                  refine TL.nil ?_
                  show TC _ _ _ _ _ _
                  refine TC.ret ?_
                  exact ⟨.inr rfl, [_], [_], _, rfl, by decide, rfl, by simp [refV, refC, valC], rfl, resV (by simp_all [insOk] <;> rfl)⟩
                · refine TC.skip ?_
                  show TC _ _ _ _ _ _
                  refine TC.seq ?_
                  -- region 14
                  refine TC.region ?_
                  refine TL.valE rfl (Val.assign 1 rfl rfl) (by simp only [St.put, List.set_cons_succ, List.set_cons_zero]; rfl) ?_
                  refine TL.nil ?_
                  show TC _ _ _ _ _ _
                  refine TC.ret ?_
                  exact ⟨.inr rfl, [_], [_], _, rfl, by decide, rfl, by simp [refV, refC, valC], rfl, resV (by simp_all [insOk] <;> rfl)⟩
          · -- region 8
            refine TC.region ?_
            refine TL.valE rfl (Val.eql rfl rfl rfl) (by simp only [St.put, List.set_cons_succ, List.set_cons_zero]; rfl) ?_
            refine TL.valE rfl (Val.assign 1 rfl rfl) (by simp only [St.put, List.set_cons_succ, List.set_cons_zero]; rfl) ?_
            refine TL.nil ?_
            show TC _ _ _ _ _ _
            refine TC.cond rfl (fun hb => ?_) (fun hb => ?_)
            · refine TC.seq ?_
              -- region 9
              refine TC.region ?_
              refine TL.valE rfl (by first | exact Val.field rfl rfl rfl | exact Val.fieldC rfl rfl rfl) (by simp only [St.put, List.set_cons_succ, List.set_cons_zero, List.getElem_toArray, List.getElem_cons_succ, List.getElem_cons_zero, Nat.zero_add, Nat.reduceAdd]; rfl) ?_
              refine TL.valE rfl (by first | exact Val.load rfl rfl rfl rfl rfl | exact Val.loadC rfl rfl rfl) (by simp only [St.put, List.set_cons_succ, List.set_cons_zero, valC]; rfl) ?_
              refine TL.callF (yes_none rfl) rfl rfl rfl rfl rfl rfl (impl_within_f _ _ _) (by repeat first | exact .nil | refine Snaps.cons (.ro _) ?_ | refine Snaps.cons (.aggRo rfl) ?_ | refine Snaps.cons (.cptr _) ?_ | refine Snaps.cons (.fn _) ?_ | refine Snaps.cons (.ownRef rfl (by first | assumption | exact w_IntS _ | exact w_IntSS _ | exact w_InsS _ | exact w_SlotS _ | exact w_GuestS _ | exact w_BareS _)) ?_ | refine Snaps.cons (.aggR (by repeat first | exact .nil | refine SnapCs.cons (.ro _) ?_ | refine SnapCs.cons (.ref rfl (by first | assumption | exact w_IntS _ | exact w_IntSS _ | exact w_InsS _ | exact w_SlotS _ | exact w_GuestS _ | exact w_BareS _)) ?_)) ?_) rfl (by simp only [St.put, List.set_cons_succ, List.set_cons_zero]; rfl) ?_
              refine TL.valE rfl (Val.assign 1 rfl rfl) (by simp only [St.put, List.set_cons_succ, List.set_cons_zero]; rfl) ?_
              refine TL.nil ?_
              show TC _ _ _ _ _ _
              refine TC.ret ?_
              exact ⟨.inr rfl, [_], [_], _, rfl, by decide, rfl, by simp [refV, refC, valC], rfl, resV (by simp_all [insOk] <;> rfl)⟩
            · refine TC.seq ?_
              -- region 10
              refine TC.region ?_
              refine TL.valE rfl (Val.eql rfl rfl rfl) (by simp only [St.put, List.set_cons_succ, List.set_cons_zero]; rfl) ?_
              refine TL.valE rfl (Val.assign 1 rfl rfl) (by simp only [St.put, List.set_cons_succ, List.set_cons_zero]; rfl) ?_
              refine TL.nil ?_
              show TC _ _ _ _ _ _
              refine TC.cond rfl (fun hb => ?_) (fun hb => ?_)
              · refine TC.seq ?_
                -- region 11
                refine TC.region ?_
                refine TL.valE rfl (by first | exact Val.field rfl rfl rfl | exact Val.fieldC rfl rfl rfl) (by simp only [St.put, List.set_cons_succ, List.set_cons_zero, List.getElem_toArray, List.getElem_cons_succ, List.getElem_cons_zero, Nat.zero_add, Nat.reduceAdd]; rfl) ?_
                refine TL.valE rfl (by first | exact Val.load rfl rfl rfl rfl rfl | exact Val.loadC rfl rfl rfl) (by simp only [St.put, List.set_cons_succ, List.set_cons_zero, valC]; rfl) ?_
                refine TL.valE rfl (Val.eql rfl rfl rfl) (by simp only [St.put, List.set_cons_succ, List.set_cons_zero]; rfl) ?_
                refine TL.valE rfl (Val.assign 1 rfl rfl) (by simp only [St.put, List.set_cons_succ, List.set_cons_zero]; rfl) ?_
                refine TL.nil ?_
                show TC _ _ _ _ _ _
                refine TC.ret ?_
                exact ⟨.inr rfl, [_], [_], _, rfl, by decide, rfl, by simp [refV, refC, valC], rfl, resV (by simp_all [insOk] <;> rfl)⟩
              · refine TC.seq ?_
                -- region 12
                refine TC.region ?_
                refine TL.valE rfl (Val.eql rfl rfl rfl) (by simp only [St.put, List.set_cons_succ, List.set_cons_zero]; rfl) ?_
                refine TL.valE rfl (Val.assign 1 rfl rfl) (by simp only [St.put, List.set_cons_succ, List.set_cons_zero]; rfl) ?_
                refine TL.nil ?_
                show TC _ _ _ _ _ _
                refine TC.cond rfl (fun hb => ?_) (fun hb => ?_)
                · refine TC.seq ?_
                  -- region 13
                  refine TC.region ?_
                  refine TL.valE rfl (by first | exact Val.field rfl rfl rfl | exact Val.fieldC rfl rfl rfl) (by simp only [St.put, List.set_cons_succ, List.set_cons_zero, List.getElem_toArray, List.getElem_cons_succ, List.getElem_cons_zero, Nat.zero_add, Nat.reduceAdd]; rfl) ?_
                  refine TL.valE rfl (by first | exact Val.load rfl rfl rfl rfl rfl | exact Val.loadC rfl rfl rfl) (by simp only [St.put, List.set_cons_succ, List.set_cons_zero, valC]; rfl) ?_
                  refine TL.callF (yes_none rfl) rfl rfl rfl rfl rfl rfl (impl_within_f _ _ _) (by repeat first | exact .nil | refine Snaps.cons (.ro _) ?_ | refine Snaps.cons (.aggRo rfl) ?_ | refine Snaps.cons (.cptr _) ?_ | refine Snaps.cons (.fn _) ?_ | refine Snaps.cons (.ownRef rfl (by first | assumption | exact w_IntS _ | exact w_IntSS _ | exact w_InsS _ | exact w_SlotS _ | exact w_GuestS _ | exact w_BareS _)) ?_ | refine Snaps.cons (.aggR (by repeat first | exact .nil | refine SnapCs.cons (.ro _) ?_ | refine SnapCs.cons (.ref rfl (by first | assumption | exact w_IntS _ | exact w_IntSS _ | exact w_InsS _ | exact w_SlotS _ | exact w_GuestS _ | exact w_BareS _)) ?_)) ?_) rfl (by simp only [St.put, List.set_cons_succ, List.set_cons_zero]; rfl) ?_
                  refine TL.valE rfl (Val.assign 1 rfl rfl) (by simp only [St.put, List.set_cons_succ, List.set_cons_zero]; rfl) ?_
                  refine TL.nil ?_
                  show TC _ _ _ _ _ _
                  refine TC.ret ?_
                  exact ⟨.inr rfl, [_], [_], _, rfl, by decide, rfl, by simp [refV, refC, valC], rfl, resV (by simp_all [insOk] <;> rfl)⟩
                · refine TC.skip ?_
                  show TC _ _ _ _ _ _
                  refine TC.seq ?_
                  -- region 14
                  refine TC.region ?_
                  refine TL.valE rfl (Val.assign 1 rfl rfl) (by simp only [St.put, List.set_cons_succ, List.set_cons_zero]; rfl) ?_
                  refine TL.nil ?_
                  show TC _ _ _ _ _ _
                  refine TC.ret ?_
                  exact ⟨.inr rfl, [_], [_], _, rfl, by decide, rfl, by simp [refV, refC, valC], rfl, resV (by simp_all [insOk] <;> rfl)⟩

-- loop.example/g00975/impl.ProgOk: params ['[]impl.Ins'] results ['bool'] ('arr', [('app', 'Go.ResultVar.tmp', ['2'])])
theorem impl_ProgOk_f (xs : List VIns) : Fun Try.prog 57 [L 2 (xs.map dIns)] (RV (.bool (progOk xs))) := by
  refine Fun.of Try.func57 rfl (by simp [Try.ntmps57]) fun w g0 => ?_
  simp only [Try.ntmps57, List.length_cons, List.length_nil, Nat.reduceAdd, Nat.reduceSub, List.replicate, List.cons_append, List.nil_append]
  refine TC.most (i := 0) rfl rfl fun hm0 => ?_
  simp only [most, List.length_map] at hm0
  refine TC.seq ?_
  -- region 0
  refine TC.region ?_
  refine TL.valE rfl (Val.assign 1 rfl rfl) (by simp only [St.put, List.set_cons_succ, List.set_cons_zero]; rfl) ?_
  refine TL.nil ?_
  show TC _ _ _ _ _ _
  refine TC.seq ?_
  refine TC.seq ?_
  -- region 1
  refine TC.region ?_
  refine TL.valE rfl (Val.move 1 rfl rfl) (by simp only [St.put, List.set_cons_succ, List.set_cons_zero]; rfl) ?_
  refine TL.valE rfl (by first | exact Val.len rfl rfl rfl rfl | exact Val.lenS rfl rfl rfl) (by simp only [St.put, List.set_cons_succ, List.set_cons_zero]; rfl) ?_
  refine TL.valE rfl (Val.move 1 rfl rfl) (by simp only [St.put, List.set_cons_succ, List.set_cons_zero]; rfl) ?_
  refine TL.nil ?_
  show TC _ _ _ _ _ _
  refine TC.block ?_
  refine TC.loop (fun μ st => ∃ k : Nat, (k ≤ xs.length ∧ (xs.take k).all insOk = true) ∧ μ = xs.length - k ∧ Can st ⟨[L 2 (xs.map dIns), .one .dead, .one .dead, .one .dead, .one .dead, L 2 (xs.map dIns), I (xs.map dIns).length, I k, .one .dead, .one .dead, .one .dead, .one .dead, .one .dead, .one .dead, .one .dead, .one .dead, .one .dead, .one .dead], []⟩) (xs.length) ?_ fun μ st hI => ?_
  · refine ⟨0, by simp, by simp, ?_⟩
    exact Can.to (by repeat first | exact LessT.nil | refine LessT.drop ?_ | refine LessT.keep ?_ | refine LessT.eq (by simp) ?_) (by repeat first | exact .nil | refine .cons rfl rfl ?_)
  · obtain ⟨k, hyp, rfl, hcan⟩ := hI
    refine TC.can hcan ?_
    clear hcan
    refine TC.seq ?_
    -- region 2
    refine TC.region ?_
    refine TL.valE rfl (Val.lss rfl rfl rfl) (by simp only [St.put, List.set_cons_succ, List.set_cons_zero]; rfl) ?_
    refine TL.nil ?_
    show TC _ _ _ _ _ _
    refine TC.seq ?_
    refine TC.cond rfl (fun hb => ?_) (fun hb => ?_)
    · refine TC.skip ?_
      show TC _ _ _ _ _ _
      refine TC.seq ?_
      refine TC.block ?_
      refine TC.seq ?_
      have hk : k < xs.length := by simpa using hb
      obtain ⟨x, hx⟩ := at_of (xs := xs) (k := k) hk
      -- region 3
      refine TC.region ?_
      refine TL.valE rfl (by exact Val.indexC (d := dIns x) rfl rfl rfl rfl rfl (by omega) (by simp [hx])) (by simp only [St.put, List.set_cons_succ, List.set_cons_zero]; rfl) ?_
      refine TL.valE rfl (by first | exact Val.loadCAgg (n := 2) rfl rfl rfl rfl (Nat.le_of_ble_eq_true rfl) | exact Val.loadAgg (n := 2) rfl rfl rfl rfl (by simp [St.cellsAt, St.cellAt, St.root, valC]; rfl) rfl | exact Val.loadAgg (n := 2) rfl rfl rfl rfl rfl rfl) (by simp only [St.put, List.set_cons_succ, List.set_cons_zero, valC, dIns, rIns, D.row, List.take_succ_cons, List.take_zero, List.map_cons, List.map_nil]; rfl) ?_
      refine TL.opK rfl fun K hK => ?_
      refine OpT.alloc rfl rfl rfl rfl rfl rfl ?_ -- 4
      simp only [St.fresh, St.kill, St.setRoot, St.put, St.renew, TS.kill, TV.kill, C.kill, Rt.kill, boxC, List.map_cons, List.map_nil, List.filter_cons, List.filter_nil, List.set_cons_succ, List.set_cons_zero, List.contains_cons, List.contains_nil, Nat.reduceBEq, Nat.reduceBNe, St.wrote, hitR, hitP, shapeOf, List.isPrefixOf, List.append_eq, Bool.and_true, Bool.true_and, Bool.and_false, Bool.false_and, List.nil_append, List.cons_append, beq_self_eq_true, bne_self_eq_false, Bool.or_false, Bool.or_true, Bool.not_true, Bool.not_false, Bool.false_eq_true, if_true, if_false, reduceIte, resT, valsD, refsD, refD, nextD, nextsD, cellsD, isSl, List.append_nil]
      refine hK _ ?_
      clear hK K
      refine TL.opK rfl fun K hK => ?_
      refine OpT.storeAgg rfl rfl rfl rfl rfl rfl (by simp [St.store1, St.storeAll, St.cellAt, St.isMem, St.root, St.wrote, St.kill, St.setRoot, TS.kill, TV.kill, C.kill, Rt.kill, hitR, hitP, shapeOf, setRow, setAt, rowAt, D.row, D.reRow, List.isPrefixOf]; rfl) ?_ -- None
      simp only [St.fresh, St.kill, St.setRoot, St.put, St.renew, TS.kill, TV.kill, C.kill, Rt.kill, boxC, List.map_cons, List.map_nil, List.filter_cons, List.filter_nil, List.set_cons_succ, List.set_cons_zero, List.contains_cons, List.contains_nil, Nat.reduceBEq, Nat.reduceBNe, St.wrote, hitR, hitP, shapeOf, List.isPrefixOf, List.append_eq, Bool.and_true, Bool.true_and, Bool.and_false, Bool.false_and, List.nil_append, List.cons_append, beq_self_eq_true, bne_self_eq_false, Bool.or_false, Bool.or_true, Bool.not_true, Bool.not_false, Bool.false_eq_true, if_true, if_false, reduceIte, resT, valsD, refsD, refD, nextD, nextsD, cellsD, isSl, List.append_nil]
      refine hK _ ?_
      clear hK K
      refine TL.nil ?_
      show TC _ _ _ _ _ _
      refine TC.seq ?_
      -- region 4
      refine TC.region ?_
      refine TL.valE rfl (by first | exact Val.loadCAgg (n := 2) rfl rfl rfl rfl (Nat.le_of_ble_eq_true rfl) | exact Val.loadAgg (n := 2) rfl rfl rfl rfl (by simp [St.cellsAt, St.cellAt, St.root, valC]; rfl) rfl | exact Val.loadAgg (n := 2) rfl rfl rfl rfl rfl rfl) (by simp only [St.put, List.set_cons_succ, List.set_cons_zero, valC, dIns, rIns, D.row, List.take_succ_cons, List.take_zero, List.map_cons, List.map_nil]; rfl) ?_
      refine TL.callF (yes_none rfl) rfl rfl rfl rfl rfl rfl (impl_InsOk_f x) (by repeat first | exact .nil | refine Snaps.cons (.ro _) ?_ | refine Snaps.cons (.aggRo rfl) ?_ | refine Snaps.cons (.cptr _) ?_ | refine Snaps.cons (.fn _) ?_ | refine Snaps.cons (.ownRef rfl (by first | assumption | exact w_IntS _ | exact w_IntSS _ | exact w_InsS _ | exact w_SlotS _ | exact w_GuestS _ | exact w_BareS _)) ?_ | refine Snaps.cons (.aggR (by repeat first | exact .nil | refine SnapCs.cons (.ro _) ?_ | refine SnapCs.cons (.ref rfl (by first | assumption | exact w_IntS _ | exact w_IntSS _ | exact w_InsS _ | exact w_SlotS _ | exact w_GuestS _ | exact w_BareS _)) ?_)) ?_) rfl (by simp only [St.put, List.set_cons_succ, List.set_cons_zero]; rfl) ?_
      refine TL.valE rfl (Val.not rfl rfl) (by simp only [St.put, List.set_cons_succ, List.set_cons_zero]; rfl) ?_
      refine TL.nil ?_
      show TC _ _ _ _ _ _
      refine TC.cond rfl (fun hb => ?_) (fun hb => ?_)
      · refine TC.seq ?_
        have hf : xs.all insOk = false := all_off hx (by simpa using hb)
        -- region 5
        refine TC.region ?_
        refine TL.valE rfl (Val.assign 1 rfl rfl) (by simp only [St.put, List.set_cons_succ, List.set_cons_zero]; rfl) ?_
        refine TL.nil ?_
        show TC _ _ _ _ _ _
        refine TC.ret ?_
        exact ⟨.inr rfl, [_], [_], _, rfl, by decide, rfl, by simp [refV, refC, valC], rfl, resV (by simp [progOk, hf])⟩
      · refine TC.skip ?_
        show TC _ _ _ _ _ _
        -- region 6
        refine TC.region ?_
        refine TL.valE rfl (Val.add rfl rfl rfl (by first | omega | (simp only [List.length_map]; omega)) (by first | omega | (simp only [List.length_map]; omega))) (by simp only [St.put, List.set_cons_succ, List.set_cons_zero]; rfl) ?_
        refine TL.valE rfl (Val.move 1 rfl rfl) (by simp only [St.put, List.set_cons_succ, List.set_cons_zero]; rfl) ?_
        refine TL.nil ?_
        refine Seq.normal ⟨_, ?_, k + 1, ?_, rfl, ?_⟩
        · omega
        · exact ⟨by omega, all_step hyp.2 hx (by simpa using hb)⟩
        · exact Can.to (by repeat first | exact LessT.nil | refine LessT.drop ?_ | refine LessT.keep ?_ | refine LessT.eq (by simp) ?_) (by repeat first | exact .nil | refine .cons rfl rfl ?_)
    · refine TC.exit ?_
      -- exit 0
      show TC _ _ _ _ _ _
      refine TC.seq ?_
      have ha : xs.all insOk = true := all_all hyp.2 (by simp at hb; omega)
      -- region 7
      refine TC.region ?_
      refine TL.valE rfl (Val.move 1 rfl rfl) (by simp only [St.put, List.set_cons_succ, List.set_cons_zero]; rfl) ?_
      refine TL.valE rfl (by first | exact Val.len rfl rfl rfl rfl | exact Val.lenS rfl rfl rfl) (by simp only [St.put, List.set_cons_succ, List.set_cons_zero]; rfl) ?_
      refine TL.callF (yes_none rfl) rfl rfl rfl rfl rfl rfl (impl_within_f _ _ _) (by repeat first | exact .nil | refine Snaps.cons (.ro _) ?_ | refine Snaps.cons (.aggRo rfl) ?_ | refine Snaps.cons (.cptr _) ?_ | refine Snaps.cons (.fn _) ?_ | refine Snaps.cons (.ownRef rfl (by first | assumption | exact w_IntS _ | exact w_IntSS _ | exact w_InsS _ | exact w_SlotS _ | exact w_GuestS _ | exact w_BareS _)) ?_ | refine Snaps.cons (.aggR (by repeat first | exact .nil | refine SnapCs.cons (.ro _) ?_ | refine SnapCs.cons (.ref rfl (by first | assumption | exact w_IntS _ | exact w_IntSS _ | exact w_InsS _ | exact w_SlotS _ | exact w_GuestS _ | exact w_BareS _)) ?_)) ?_) rfl (by simp only [St.put, List.set_cons_succ, List.set_cons_zero]; rfl) ?_
      refine TL.valE rfl (Val.assign 1 rfl rfl) (by simp only [St.put, List.set_cons_succ, List.set_cons_zero]; rfl) ?_
      refine TL.nil ?_
      show TC _ _ _ _ _ _
      refine TC.ret ?_
      exact ⟨.inr rfl, [_], [_], _, rfl, by decide, rfl, by simp [refV, refC, valC], rfl, resV (by simp [progOk, ha] <;> (try simp_all) <;> (first | rfl | omega | (rw [Bool.eq_iff_iff]; simp [and_assoc]; done) | (rw [Bool.eq_iff_iff]; simp; omega)))⟩

-- loop.example/g00975/impl.NoSlot: params [] results ['impl.Slot = loop.example/g00975/impl.Slot'] ('arr', [('app', 'Go.ResultVar.cell', ['0', '92'])])
theorem impl_NoSlot_f  : Fun Try.prog 86 [] (RP (A (rSlot ⟨-1, 0⟩))) := by
  refine Fun.of Try.func86 rfl (by simp [Try.ntmps86]) fun w g0 => ?_
  simp only [Try.ntmps86, List.length_cons, List.length_nil, Nat.reduceAdd, Nat.reduceSub, List.replicate, List.cons_append, List.nil_append]
  refine TC.seq ?_
  -- region 0
  refine TC.region ?_
  refine TL.opK rfl fun K hK => ?_
  refine OpT.alloc rfl rfl rfl rfl rfl rfl ?_ -- 0
  simp only [St.fresh, St.kill, St.setRoot, St.put, St.renew, TS.kill, TV.kill, C.kill, Rt.kill, boxC, List.map_cons, List.map_nil, List.filter_cons, List.filter_nil, List.set_cons_succ, List.set_cons_zero, List.contains_cons, List.contains_nil, Nat.reduceBEq, Nat.reduceBNe, St.wrote, hitR, hitP, shapeOf, List.isPrefixOf, List.append_eq, Bool.and_true, Bool.true_and, Bool.and_false, Bool.false_and, List.nil_append, List.cons_append, beq_self_eq_true, bne_self_eq_false, Bool.or_false, Bool.or_true, Bool.not_true, Bool.not_false, Bool.false_eq_true, if_true, if_false, reduceIte, resT, valsD, refsD, refD, nextD, nextsD, cellsD, isSl, List.append_nil]
  refine hK _ ?_
  clear hK K
  refine TL.nil ?_
  show TC _ _ _ _ _ _
  refine TC.seq ?_
  -- region 1
  refine TC.region ?_
  refine TL.valE rfl (Val.build (parts := [(0, (Go.Operand.const (Go.Value.int Go.IntKind.i64 (-1))))]) (place := [(0, 1), (1, 1)]) rfl rfl rfl rfl rfl rfl rfl rfl rfl (by simp [fillC]; rfl)) (by simp only [St.put, List.set_cons_succ, List.set_cons_zero]; rfl) ?_
  refine TL.opK rfl fun K hK => ?_
  refine OpT.storeAgg rfl rfl rfl rfl rfl rfl (by simp [St.store1, St.storeAll, St.cellAt, St.isMem, St.root, St.wrote, St.kill, St.setRoot, TS.kill, TV.kill, C.kill, Rt.kill, hitR, hitP, shapeOf, setRow, setAt, rowAt, D.row, D.reRow, List.isPrefixOf]; rfl) ?_ -- None
  simp only [St.fresh, St.kill, St.setRoot, St.put, St.renew, TS.kill, TV.kill, C.kill, Rt.kill, boxC, List.map_cons, List.map_nil, List.filter_cons, List.filter_nil, List.set_cons_succ, List.set_cons_zero, List.contains_cons, List.contains_nil, Nat.reduceBEq, Nat.reduceBNe, St.wrote, hitR, hitP, shapeOf, List.isPrefixOf, List.append_eq, Bool.and_true, Bool.true_and, Bool.and_false, Bool.false_and, List.nil_append, List.cons_append, beq_self_eq_true, bne_self_eq_false, Bool.or_false, Bool.or_true, Bool.not_true, Bool.not_false, Bool.false_eq_true, if_true, if_false, reduceIte, resT, valsD, refsD, refD, nextD, nextsD, cellsD, isSl, List.append_nil]
  refine hK _ ?_
  clear hK K
  refine TL.nil ?_
  show TC _ _ _ _ _ _
  refine TC.ret ?_
  exact ⟨.inr rfl, [_], [_], _, rfl, by decide, rfl, by simp [refV, refC, valC], rfl, rfl⟩

-- loop.example/g00975/impl.SlotOk: params ['impl.Slot = loop.example/g00975/impl.Slot', 'int'] results ['bool'] ('arr', [('app', 'Go.ResultVar.tmp', ['4'])])
theorem impl_SlotOk_f (x : VSlot) (pages : Int) (h1 : 0 ≤ pages) (h2 : pages ≤ 1000) : Fun Try.prog 73 [A (rSlot x), I pages] (RV (.bool (slotOk x pages))) := by
  refine Fun.of Try.func73 rfl (by simp [Try.ntmps73]) fun w g0 => ?_
  simp only [Try.ntmps73, List.length_cons, List.length_nil, Nat.reduceAdd, Nat.reduceSub, List.replicate, List.cons_append, List.nil_append]
  refine TC.seq ?_
  -- region 0
  refine TC.region ?_
  refine TL.opK rfl fun K hK => ?_
  first | refine OpT.box rfl rfl (z := 1) rfl (by simp) ?_ | refine OpT.boxAgg rfl rfl rfl ?_ -- 2
  simp only [St.fresh, St.kill, St.setRoot, St.put, St.renew, TS.kill, TV.kill, C.kill, Rt.kill, boxC, List.map_cons, List.map_nil, List.filter_cons, List.filter_nil, List.set_cons_succ, List.set_cons_zero, List.contains_cons, List.contains_nil, Nat.reduceBEq, Nat.reduceBNe, St.wrote, hitR, hitP, shapeOf, List.isPrefixOf, List.append_eq, Bool.and_true, Bool.true_and, Bool.and_false, Bool.false_and, List.nil_append, List.cons_append, beq_self_eq_true, bne_self_eq_false, Bool.or_false, Bool.or_true, Bool.not_true, Bool.not_false, Bool.false_eq_true, if_true, if_false, reduceIte, resT, valsD, refsD, refD, nextD, nextsD, cellsD, isSl, List.append_nil]
  refine hK _ ?_
  clear hK K
  refine TL.valE rfl (Val.assign 1 rfl rfl) (by simp only [St.put, List.set_cons_succ, List.set_cons_zero]; rfl) ?_
  refine TL.nil ?_
  show TC _ _ _ _ _ _
  refine TC.seq ?_
  -- region 1
  refine TC.regionQ rfl (by decide +kernel) ?_
  refine TQ.valE rfl (by first | exact Val.loadCAgg (n := 2) rfl rfl rfl rfl (Nat.le_of_ble_eq_true rfl) | exact Val.loadAgg (n := 2) rfl rfl rfl rfl (by simp [St.cellsAt, St.cellAt, St.root, valC]; rfl) rfl | exact Val.loadAgg (n := 2) rfl rfl rfl rfl rfl rfl) (by simp only [St.put, List.set_cons_succ, List.set_cons_zero, valC, dSlot, rSlot, D.row, List.take_succ_cons, List.take_zero, List.map_cons, List.map_nil]; rfl) ?_
  refine TQ.callF (yes_none rfl) rfl rfl rfl rfl rfl rfl (impl_NoSlot_f) (by repeat first | exact .nil | refine Snaps.cons (.ro _) ?_ | refine Snaps.cons (.aggRo rfl) ?_ | refine Snaps.cons (.cptr _) ?_ | refine Snaps.cons (.fn _) ?_ | refine Snaps.cons (.ownRef rfl (by first | assumption | exact w_IntS _ | exact w_IntSS _ | exact w_InsS _ | exact w_SlotS _ | exact w_GuestS _ | exact w_BareS _)) ?_ | refine Snaps.cons (.aggR (by repeat first | exact .nil | refine SnapCs.cons (.ro _) ?_ | refine SnapCs.cons (.ref rfl (by first | assumption | exact w_IntS _ | exact w_IntSS _ | exact w_InsS _ | exact w_SlotS _ | exact w_GuestS _ | exact w_BareS _)) ?_)) ?_) rfl (by simp only [St.put, List.set_cons_succ, List.set_cons_zero]; rfl) ?_
  refine TQ.valE rfl (Val.eqlA rfl rfl rfl rfl rfl rfl (by kernel_rfl) (by kernel_rfl) rfl) (by simp only [St.put, List.set_cons_succ, List.set_cons_zero]; rfl) ?_
  refine TQ.valE rfl (Val.move 1 rfl rfl) (by simp only [St.put, List.set_cons_succ, List.set_cons_zero]; rfl) ?_
  refine TQ.splitG 3 rfl (fun hg3 => ?_) (fun hg3 => ?_)
  · iterate 3 (refine TQ.skip (nope_b rfl rfl hg3) (by simp only [St.put, List.set_cons_succ, List.set_cons_zero]; rfl) ?_)
    iterate 5 (refine TQ.skip (nope_u rfl rfl) (by simp only [St.put, List.set_cons_succ, List.set_cons_zero]; rfl) ?_)
    iterate 2 (refine TQ.skip (nope_b rfl rfl hg3) (by simp only [St.put, List.set_cons_succ, List.set_cons_zero]; rfl) ?_)
    iterate 3 (refine TQ.skip (nope_u rfl rfl) (by simp only [St.put, List.set_cons_succ, List.set_cons_zero]; rfl) ?_)
    refine TQ.skip (nope_b rfl rfl hg3) (by simp only [St.put, List.set_cons_succ, List.set_cons_zero]; rfl) ?_
    refine TQ.valE rfl (Val.pickT rfl rfl hg3 rfl) (by simp only [St.put, List.set_cons_succ, List.set_cons_zero]; rfl) ?_
    refine TQ.valE rfl (Val.assign 1 rfl rfl) (by simp only [St.put, List.set_cons_succ, List.set_cons_zero]; rfl) ?_
    refine TQ.nil ?_
    show TC _ _ _ _ _ _
    refine TC.ret ?_
    exact ⟨.inr rfl, [_], [_], _, rfl, by decide, rfl, by simp [refV, refC, valC], rfl, resV (by cases x; simp_all [slotOk, eqVs, eqV, inR] <;> (try omega))⟩
  · refine TQ.guardE rfl rfl hg3 (Val.move 1 rfl rfl) (by simp only [St.put, List.set_cons_succ, List.set_cons_zero]; rfl) ?_
    refine TQ.guardE rfl rfl hg3 (Val.gtr rfl rfl rfl) (by simp only [St.put, List.set_cons_succ, List.set_cons_zero]; rfl) ?_
    refine TQ.guardE rfl rfl hg3 (Val.move 1 rfl rfl) (by simp only [St.put, List.set_cons_succ, List.set_cons_zero]; rfl) ?_
    refine TQ.splitG 6 rfl (fun hg6 => ?_) (fun hg6 => ?_)
    · refine TQ.guardE rfl rfl hg6 (by first | exact Val.field rfl rfl rfl | exact Val.fieldC rfl rfl rfl) (by simp only [St.put, List.set_cons_succ, List.set_cons_zero, List.getElem_toArray, List.getElem_cons_succ, List.getElem_cons_zero, Nat.zero_add, Nat.reduceAdd]; rfl) ?_
      refine TQ.guardE rfl rfl hg6 (by first | exact Val.load rfl rfl rfl rfl rfl | exact Val.loadC rfl rfl rfl) (by simp only [St.put, List.set_cons_succ, List.set_cons_zero, valC]; rfl) ?_
      refine TQ.guardE rfl rfl hg6 (Val.move 1 rfl rfl) (by simp only [St.put, List.set_cons_succ, List.set_cons_zero]; rfl) ?_
      refine TQ.guardE rfl rfl hg6 (Val.sub rfl rfl rfl (by first | omega | (simp only [List.length_map]; omega)) (by first | omega | (simp only [List.length_map]; omega))) (by simp only [St.put, List.set_cons_succ, List.set_cons_zero]; rfl) ?_
      refine TQ.callF (yes_some rfl rfl hg6) rfl rfl rfl rfl rfl rfl (impl_within_f _ _ _) (by repeat first | exact .nil | refine Snaps.cons (.ro _) ?_ | refine Snaps.cons (.aggRo rfl) ?_ | refine Snaps.cons (.cptr _) ?_ | refine Snaps.cons (.fn _) ?_ | refine Snaps.cons (.ownRef rfl (by first | assumption | exact w_IntS _ | exact w_IntSS _ | exact w_InsS _ | exact w_SlotS _ | exact w_GuestS _ | exact w_BareS _)) ?_ | refine Snaps.cons (.aggR (by repeat first | exact .nil | refine SnapCs.cons (.ro _) ?_ | refine SnapCs.cons (.ref rfl (by first | assumption | exact w_IntS _ | exact w_IntSS _ | exact w_InsS _ | exact w_SlotS _ | exact w_GuestS _ | exact w_BareS _)) ?_)) ?_) rfl (by simp only [St.put, List.set_cons_succ, List.set_cons_zero]; rfl) ?_
      refine TQ.guardE rfl rfl hg3 (Val.pickT rfl rfl hg6 rfl) (by simp only [St.put, List.set_cons_succ, List.set_cons_zero]; rfl) ?_
      refine TQ.guardE rfl rfl hg3 (Val.move 1 rfl rfl) (by simp only [St.put, List.set_cons_succ, List.set_cons_zero]; rfl) ?_
      refine TQ.splitG 13 rfl (fun hg13 => ?_) (fun hg13 => ?_)
      · refine TQ.guardE rfl rfl hg13 (by first | exact Val.field rfl rfl rfl | exact Val.fieldC rfl rfl rfl) (by simp only [St.put, List.set_cons_succ, List.set_cons_zero, List.getElem_toArray, List.getElem_cons_succ, List.getElem_cons_zero, Nat.zero_add, Nat.reduceAdd]; rfl) ?_
        refine TQ.guardE rfl rfl hg13 (by first | exact Val.load rfl rfl rfl rfl rfl | exact Val.loadC rfl rfl rfl) (by simp only [St.put, List.set_cons_succ, List.set_cons_zero, valC]; rfl) ?_
        refine TQ.callF (yes_some rfl rfl hg13) rfl rfl rfl rfl rfl rfl (impl_within_f _ _ _) (by repeat first | exact .nil | refine Snaps.cons (.ro _) ?_ | refine Snaps.cons (.aggRo rfl) ?_ | refine Snaps.cons (.cptr _) ?_ | refine Snaps.cons (.fn _) ?_ | refine Snaps.cons (.ownRef rfl (by first | assumption | exact w_IntS _ | exact w_IntSS _ | exact w_InsS _ | exact w_SlotS _ | exact w_GuestS _ | exact w_BareS _)) ?_ | refine Snaps.cons (.aggR (by repeat first | exact .nil | refine SnapCs.cons (.ro _) ?_ | refine SnapCs.cons (.ref rfl (by first | assumption | exact w_IntS _ | exact w_IntSS _ | exact w_InsS _ | exact w_SlotS _ | exact w_GuestS _ | exact w_BareS _)) ?_)) ?_) rfl (by simp only [St.put, List.set_cons_succ, List.set_cons_zero]; rfl) ?_
        refine TQ.guardE rfl rfl hg3 (Val.pickT rfl rfl hg13 rfl) (by simp only [St.put, List.set_cons_succ, List.set_cons_zero]; rfl) ?_
        refine TQ.valE rfl (Val.pickF rfl rfl hg3 rfl) (by simp only [St.put, List.set_cons_succ, List.set_cons_zero]; rfl) ?_
        refine TQ.valE rfl (Val.assign 1 rfl rfl) (by simp only [St.put, List.set_cons_succ, List.set_cons_zero]; rfl) ?_
        refine TQ.nil ?_
        show TC _ _ _ _ _ _
        refine TC.ret ?_
        exact ⟨.inr rfl, [_], [_], _, rfl, by decide, rfl, by simp [refV, refC, valC], rfl, resV (by cases x; simp_all [slotOk, eqVs, eqV, inR] <;> (try omega))⟩
      · iterate 3 (refine TQ.skip (nope_b rfl rfl hg13) (by simp only [St.put, List.set_cons_succ, List.set_cons_zero]; rfl) ?_)
        refine TQ.guardE rfl rfl hg3 (Val.pickF rfl rfl hg13 rfl) (by simp only [St.put, List.set_cons_succ, List.set_cons_zero]; rfl) ?_
        refine TQ.valE rfl (Val.pickF rfl rfl hg3 rfl) (by simp only [St.put, List.set_cons_succ, List.set_cons_zero]; rfl) ?_
        refine TQ.valE rfl (Val.assign 1 rfl rfl) (by simp only [St.put, List.set_cons_succ, List.set_cons_zero]; rfl) ?_
        refine TQ.nil ?_
        show TC _ _ _ _ _ _
        refine TC.ret ?_
        exact ⟨.inr rfl, [_], [_], _, rfl, by decide, rfl, by simp [refV, refC, valC], rfl, resV (by cases x; simp_all [slotOk, eqVs, eqV, inR] <;> (try omega))⟩
    · iterate 5 (refine TQ.skip (nope_b rfl rfl hg6) (by simp only [St.put, List.set_cons_succ, List.set_cons_zero]; rfl) ?_)
      refine TQ.guardE rfl rfl hg3 (Val.pickF rfl rfl hg6 rfl) (by simp only [St.put, List.set_cons_succ, List.set_cons_zero]; rfl) ?_
      refine TQ.guardE rfl rfl hg3 (Val.move 1 rfl rfl) (by simp only [St.put, List.set_cons_succ, List.set_cons_zero]; rfl) ?_
      iterate 3 (refine TQ.skip (nope_b rfl rfl rfl) (by simp only [St.put, List.set_cons_succ, List.set_cons_zero]; rfl) ?_)
      refine TQ.guardE rfl rfl hg3 (Val.pickF rfl rfl rfl rfl) (by simp only [St.put, List.set_cons_succ, List.set_cons_zero]; rfl) ?_
      refine TQ.valE rfl (Val.pickF rfl rfl hg3 rfl) (by simp only [St.put, List.set_cons_succ, List.set_cons_zero]; rfl) ?_
      refine TQ.valE rfl (Val.assign 1 rfl rfl) (by simp only [St.put, List.set_cons_succ, List.set_cons_zero]; rfl) ?_
      refine TQ.nil ?_
      show TC _ _ _ _ _ _
      refine TC.ret ?_
      exact ⟨.inr rfl, [_], [_], _, rfl, by decide, rfl, by simp [refV, refC, valC], rfl, resV (by cases x; simp_all [slotOk, eqVs, eqV, inR] <;> (try omega))⟩

-- loop.example/g00975/impl.TableOk: params ['[]impl.Slot', 'int', 'int'] results ['bool'] ('arr', [('app', 'Go.ResultVar.tmp', ['6'])])
theorem impl_TableOk_f (xs : List VSlot) (size pages : Int) (h1 : 0 ≤ pages) (h2 : pages ≤ 1000) : Fun Try.prog 58 [L 2 (xs.map dSlot), I size, I pages] (RV (.bool (tableOk xs size pages))) := by
  refine Fun.of Try.func58 rfl (by simp [Try.ntmps58]) fun w g0 => ?_
  simp only [Try.ntmps58, List.length_cons, List.length_nil, Nat.reduceAdd, Nat.reduceSub, List.replicate, List.cons_append, List.nil_append]
  refine TC.most (i := 0) rfl rfl fun hm0 => ?_
  simp only [most, List.length_map] at hm0
  refine TC.seq ?_
  -- region 0
  refine TC.region ?_
  refine TL.valE rfl (Val.assign 1 rfl rfl) (by simp only [St.put, List.set_cons_succ, List.set_cons_zero]; rfl) ?_
  refine TL.nil ?_
  show TC _ _ _ _ _ _
  refine TC.seq ?_
  refine TC.seq ?_
  -- region 1
  refine TC.region ?_
  refine TL.valE rfl (Val.move 1 rfl rfl) (by simp only [St.put, List.set_cons_succ, List.set_cons_zero]; rfl) ?_
  refine TL.valE rfl (by first | exact Val.len rfl rfl rfl rfl | exact Val.lenS rfl rfl rfl) (by simp only [St.put, List.set_cons_succ, List.set_cons_zero]; rfl) ?_
  refine TL.valE rfl (Val.move 1 rfl rfl) (by simp only [St.put, List.set_cons_succ, List.set_cons_zero]; rfl) ?_
  refine TL.nil ?_
  show TC _ _ _ _ _ _
  refine TC.block ?_
  refine TC.loop (fun μ st => ∃ k : Nat, (k ≤ xs.length ∧ (xs.take k).all (slotOk · pages) = true) ∧ μ = xs.length - k ∧ Can st ⟨[L 2 (xs.map dSlot), I size, I pages, .one .dead, .one .dead, .one .dead, .one .dead, .one .dead, .one .dead, L 2 (xs.map dSlot), I (xs.map dSlot).length, I k, .one .dead, .one .dead, .one .dead, .one .dead, .one .dead, .one .dead, .one .dead, .one .dead, .one .dead, .one .dead, .one .dead, .one .dead], []⟩) (xs.length) ?_ fun μ st hI => ?_
  · refine ⟨0, by simp, by simp, ?_⟩
    exact Can.to (by repeat first | exact LessT.nil | refine LessT.drop ?_ | refine LessT.keep ?_ | refine LessT.eq (by simp) ?_) (by repeat first | exact .nil | refine .cons rfl rfl ?_)
  · obtain ⟨k, hyp, rfl, hcan⟩ := hI
    refine TC.can hcan ?_
    clear hcan
    refine TC.seq ?_
    -- region 2
    refine TC.region ?_
    refine TL.valE rfl (Val.lss rfl rfl rfl) (by simp only [St.put, List.set_cons_succ, List.set_cons_zero]; rfl) ?_
    refine TL.nil ?_
    show TC _ _ _ _ _ _
    refine TC.seq ?_
    refine TC.cond rfl (fun hb => ?_) (fun hb => ?_)
    · refine TC.skip ?_
      show TC _ _ _ _ _ _
      refine TC.seq ?_
      refine TC.block ?_
      refine TC.seq ?_
      have hk : k < xs.length := by simpa using hb
      obtain ⟨x, hx⟩ := at_of (xs := xs) (k := k) hk
      -- region 3
      refine TC.region ?_
      refine TL.valE rfl (by exact Val.indexC (d := dSlot x) rfl rfl rfl rfl rfl (by omega) (by simp [hx])) (by simp only [St.put, List.set_cons_succ, List.set_cons_zero]; rfl) ?_
      refine TL.valE rfl (by first | exact Val.loadCAgg (n := 2) rfl rfl rfl rfl (Nat.le_of_ble_eq_true rfl) | exact Val.loadAgg (n := 2) rfl rfl rfl rfl (by simp [St.cellsAt, St.cellAt, St.root, valC]; rfl) rfl | exact Val.loadAgg (n := 2) rfl rfl rfl rfl rfl rfl) (by simp only [St.put, List.set_cons_succ, List.set_cons_zero, valC, dSlot, rSlot, D.row, List.take_succ_cons, List.take_zero, List.map_cons, List.map_nil]; rfl) ?_
      refine TL.opK rfl fun K hK => ?_
      refine OpT.alloc rfl rfl rfl rfl rfl rfl ?_ -- 8
      simp only [St.fresh, St.kill, St.setRoot, St.put, St.renew, TS.kill, TV.kill, C.kill, Rt.kill, boxC, List.map_cons, List.map_nil, List.filter_cons, List.filter_nil, List.set_cons_succ, List.set_cons_zero, List.contains_cons, List.contains_nil, Nat.reduceBEq, Nat.reduceBNe, St.wrote, hitR, hitP, shapeOf, List.isPrefixOf, List.append_eq, Bool.and_true, Bool.true_and, Bool.and_false, Bool.false_and, List.nil_append, List.cons_append, beq_self_eq_true, bne_self_eq_false, Bool.or_false, Bool.or_true, Bool.not_true, Bool.not_false, Bool.false_eq_true, if_true, if_false, reduceIte, resT, valsD, refsD, refD, nextD, nextsD, cellsD, isSl, List.append_nil]
      refine hK _ ?_
      clear hK K
      refine TL.opK rfl fun K hK => ?_
      refine OpT.storeAgg rfl rfl rfl rfl rfl rfl (by simp [St.store1, St.storeAll, St.cellAt, St.isMem, St.root, St.wrote, St.kill, St.setRoot, TS.kill, TV.kill, C.kill, Rt.kill, hitR, hitP, shapeOf, setRow, setAt, rowAt, D.row, D.reRow, List.isPrefixOf]; rfl) ?_ -- None
      simp only [St.fresh, St.kill, St.setRoot, St.put, St.renew, TS.kill, TV.kill, C.kill, Rt.kill, boxC, List.map_cons, List.map_nil, List.filter_cons, List.filter_nil, List.set_cons_succ, List.set_cons_zero, List.contains_cons, List.contains_nil, Nat.reduceBEq, Nat.reduceBNe, St.wrote, hitR, hitP, shapeOf, List.isPrefixOf, List.append_eq, Bool.and_true, Bool.true_and, Bool.and_false, Bool.false_and, List.nil_append, List.cons_append, beq_self_eq_true, bne_self_eq_false, Bool.or_false, Bool.or_true, Bool.not_true, Bool.not_false, Bool.false_eq_true, if_true, if_false, reduceIte, resT, valsD, refsD, refD, nextD, nextsD, cellsD, isSl, List.append_nil]
      refine hK _ ?_
      clear hK K
      refine TL.nil ?_
      show TC _ _ _ _ _ _
      refine TC.seq ?_
      -- region 4
      refine TC.region ?_
      refine TL.valE rfl (by first | exact Val.loadCAgg (n := 2) rfl rfl rfl rfl (Nat.le_of_ble_eq_true rfl) | exact Val.loadAgg (n := 2) rfl rfl rfl rfl (by simp [St.cellsAt, St.cellAt, St.root, valC]; rfl) rfl | exact Val.loadAgg (n := 2) rfl rfl rfl rfl rfl rfl) (by simp only [St.put, List.set_cons_succ, List.set_cons_zero, valC, dSlot, rSlot, D.row, List.take_succ_cons, List.take_zero, List.map_cons, List.map_nil]; rfl) ?_
      refine TL.valE rfl (Val.move 1 rfl rfl) (by simp only [St.put, List.set_cons_succ, List.set_cons_zero]; rfl) ?_
      refine TL.callF (yes_none rfl) rfl rfl rfl rfl rfl rfl (impl_SlotOk_f x pages h1 h2) (by repeat first | exact .nil | refine Snaps.cons (.ro _) ?_ | refine Snaps.cons (.aggRo rfl) ?_ | refine Snaps.cons (.cptr _) ?_ | refine Snaps.cons (.fn _) ?_ | refine Snaps.cons (.ownRef rfl (by first | assumption | exact w_IntS _ | exact w_IntSS _ | exact w_InsS _ | exact w_SlotS _ | exact w_GuestS _ | exact w_BareS _)) ?_ | refine Snaps.cons (.aggR (by repeat first | exact .nil | refine SnapCs.cons (.ro _) ?_ | refine SnapCs.cons (.ref rfl (by first | assumption | exact w_IntS _ | exact w_IntSS _ | exact w_InsS _ | exact w_SlotS _ | exact w_GuestS _ | exact w_BareS _)) ?_)) ?_) rfl (by simp only [St.put, List.set_cons_succ, List.set_cons_zero]; rfl) ?_
      refine TL.valE rfl (Val.not rfl rfl) (by simp only [St.put, List.set_cons_succ, List.set_cons_zero]; rfl) ?_
      refine TL.nil ?_
      show TC _ _ _ _ _ _
      refine TC.cond rfl (fun hb => ?_) (fun hb => ?_)
      · refine TC.seq ?_
        have hf : xs.all (slotOk · pages) = false := all_off hx (by simpa using hb)
        -- region 5
        refine TC.region ?_
        refine TL.valE rfl (Val.assign 1 rfl rfl) (by simp only [St.put, List.set_cons_succ, List.set_cons_zero]; rfl) ?_
        refine TL.nil ?_
        show TC _ _ _ _ _ _
        refine TC.ret ?_
        exact ⟨.inr rfl, [_], [_], _, rfl, by decide, rfl, by simp [refV, refC, valC], rfl, resV (by simp [tableOk, hf])⟩
      · refine TC.skip ?_
        show TC _ _ _ _ _ _
        -- region 6
        refine TC.region ?_
        refine TL.valE rfl (Val.add rfl rfl rfl (by first | omega | (simp only [List.length_map]; omega)) (by first | omega | (simp only [List.length_map]; omega))) (by simp only [St.put, List.set_cons_succ, List.set_cons_zero]; rfl) ?_
        refine TL.valE rfl (Val.move 1 rfl rfl) (by simp only [St.put, List.set_cons_succ, List.set_cons_zero]; rfl) ?_
        refine TL.nil ?_
        refine Seq.normal ⟨_, ?_, k + 1, ?_, rfl, ?_⟩
        · omega
        · exact ⟨by omega, all_step hyp.2 hx (by simpa using hb)⟩
        · exact Can.to (by repeat first | exact LessT.nil | refine LessT.drop ?_ | refine LessT.keep ?_ | refine LessT.eq (by simp) ?_) (by repeat first | exact .nil | refine .cons rfl rfl ?_)
    · refine TC.exit ?_
      -- exit 0
      show TC _ _ _ _ _ _
      refine TC.seq ?_
      have ha : xs.all (slotOk · pages) = true := all_all hyp.2 (by simp at hb; omega)
      -- region 7
      refine TC.region ?_
      refine TL.valE rfl (Val.move 1 rfl rfl) (by simp only [St.put, List.set_cons_succ, List.set_cons_zero]; rfl) ?_
      refine TL.valE rfl (by first | exact Val.len rfl rfl rfl rfl | exact Val.lenS rfl rfl rfl) (by simp only [St.put, List.set_cons_succ, List.set_cons_zero]; rfl) ?_
      refine TL.valE rfl (Val.move 1 rfl rfl) (by simp only [St.put, List.set_cons_succ, List.set_cons_zero]; rfl) ?_
      refine TL.valE rfl (Val.eql rfl rfl rfl) (by simp only [St.put, List.set_cons_succ, List.set_cons_zero]; rfl) ?_
      refine TL.valE rfl (Val.assign 1 rfl rfl) (by simp only [St.put, List.set_cons_succ, List.set_cons_zero]; rfl) ?_
      refine TL.nil ?_
      show TC _ _ _ _ _ _
      refine TC.ret ?_
      exact ⟨.inr rfl, [_], [_], _, rfl, by decide, rfl, by simp [refV, refC, valC], rfl, resV (by simp [tableOk, ha] <;> (try simp_all) <;> (first | rfl | omega | (rw [Bool.eq_iff_iff]; simp [and_assoc]; done) | (rw [Bool.eq_iff_iff]; simp; omega)))⟩

-- loop.example/g00975/impl.CtlFaults: params ['impl.Ctl = loop.example/g00975/impl.Ctl'] results ['[]int'] ('arr', [('app', 'Go.ResultVar.tmp', ['2'])])
theorem impl_CtlFaults_f (x : VCtl) : Fun Try.prog 74 [A (rCtl x)] (RL 1 ((ctlFaults x).map dInt)) := by
  refine Fun.of Try.func74 rfl (by simp [Try.ntmps74]) fun w g0 => ?_
  simp only [Try.ntmps74, List.length_cons, List.length_nil, Nat.reduceAdd, Nat.reduceSub, List.replicate, List.cons_append, List.nil_append]
  refine TC.seq ?_
  -- region 0
  refine TC.region ?_
  refine TL.opK rfl fun K hK => ?_
  first | refine OpT.box rfl rfl (z := 1) rfl (by simp) ?_ | refine OpT.boxAgg rfl rfl rfl ?_ -- 1
  simp only [St.fresh, St.kill, St.setRoot, St.put, St.renew, TS.kill, TV.kill, C.kill, Rt.kill, boxC, List.map_cons, List.map_nil, List.filter_cons, List.filter_nil, List.set_cons_succ, List.set_cons_zero, List.contains_cons, List.contains_nil, Nat.reduceBEq, Nat.reduceBNe, St.wrote, hitR, hitP, shapeOf, List.isPrefixOf, List.append_eq, Bool.and_true, Bool.true_and, Bool.and_false, Bool.false_and, List.nil_append, List.cons_append, beq_self_eq_true, bne_self_eq_false, Bool.or_false, Bool.or_true, Bool.not_true, Bool.not_false, Bool.false_eq_true, if_true, if_false, reduceIte, resT, valsD, refsD, refD, nextD, nextsD, cellsD, isSl, List.append_nil]
  refine hK _ ?_
  clear hK K
  refine TL.valE rfl (Val.assign 1 rfl rfl) (by simp only [St.put, List.set_cons_succ, List.set_cons_zero]; rfl) ?_
  refine TL.nil ?_
  show TC _ _ _ _ _ _
  refine TC.seq ?_
  -- region 1
  refine TC.region ?_
  refine TL.opK rfl fun K hK => ?_
  refine OpT.build0 rfl rfl rfl rfl ?_ -- 4
  simp only [St.fresh, St.kill, St.setRoot, St.put, St.renew, TS.kill, TV.kill, C.kill, Rt.kill, boxC, List.map_cons, List.map_nil, List.filter_cons, List.filter_nil, List.set_cons_succ, List.set_cons_zero, List.contains_cons, List.contains_nil, Nat.reduceBEq, Nat.reduceBNe, St.wrote, hitR, hitP, shapeOf, List.isPrefixOf, List.append_eq, Bool.and_true, Bool.true_and, Bool.and_false, Bool.false_and, List.nil_append, List.cons_append, beq_self_eq_true, bne_self_eq_false, Bool.or_false, Bool.or_true, Bool.not_true, Bool.not_false, Bool.false_eq_true, if_true, if_false, reduceIte, resT, valsD, refsD, refD, nextD, nextsD, cellsD, isSl, List.append_nil]
  refine hK _ ?_
  clear hK K
  refine TL.valE rfl (Val.assign 1 rfl rfl) (by simp only [St.put, List.set_cons_succ, List.set_cons_zero]; rfl) ?_
  refine TL.nil ?_
  show TC _ _ _ _ _ _
  refine TC.seq ?_
  refine TC.seq ?_
  -- region 2
  refine TC.region ?_
  refine TL.valE rfl (by first | exact Val.field rfl rfl rfl | exact Val.fieldC rfl rfl rfl) (by simp only [St.put, List.set_cons_succ, List.set_cons_zero, List.getElem_toArray, List.getElem_cons_succ, List.getElem_cons_zero, Nat.zero_add, Nat.reduceAdd]; rfl) ?_
  refine TL.valE rfl (by first | exact Val.load rfl rfl rfl rfl rfl | exact Val.loadC rfl rfl rfl) (by simp only [St.put, List.set_cons_succ, List.set_cons_zero, valC]; rfl) ?_
  refine TL.callF (yes_none rfl) rfl rfl rfl rfl rfl rfl (impl_within_f _ _ _) (by repeat first | exact .nil | refine Snaps.cons (.ro _) ?_ | refine Snaps.cons (.aggRo rfl) ?_ | refine Snaps.cons (.cptr _) ?_ | refine Snaps.cons (.fn _) ?_ | refine Snaps.cons (.ownRef rfl (by first | assumption | exact w_IntS _ | exact w_IntSS _ | exact w_InsS _ | exact w_SlotS _ | exact w_GuestS _ | exact w_BareS _)) ?_ | refine Snaps.cons (.aggR (by repeat first | exact .nil | refine SnapCs.cons (.ro _) ?_ | refine SnapCs.cons (.ref rfl (by first | assumption | exact w_IntS _ | exact w_IntSS _ | exact w_InsS _ | exact w_SlotS _ | exact w_GuestS _ | exact w_BareS _)) ?_)) ?_) rfl (by simp only [St.put, List.set_cons_succ, List.set_cons_zero]; rfl) ?_
  refine TL.valE rfl (Val.not rfl rfl) (by simp only [St.put, List.set_cons_succ, List.set_cons_zero]; rfl) ?_
  refine TL.nil ?_
  show TC _ _ _ _ _ _
  refine TC.cond rfl (fun hb => ?_) (fun hb => ?_)
  · -- region 3
    refine TC.region ?_
    refine TL.valE rfl (Val.move 1 rfl rfl) (by simp only [St.put, List.set_cons_succ, List.set_cons_zero]; rfl) ?_
    refine TL.opK rfl fun K hK => ?_
    refine OpT.buildP rfl rfl (xs := [(Go.Operand.const (Go.Value.int Go.IntKind.i64 1))]) rfl rfl rfl rfl (sz := 1) rfl rfl rfl (by decide) (by decide) ?_ -- 10
    simp only [St.fresh, St.kill, St.setRoot, St.put, St.renew, TS.kill, TV.kill, C.kill, Rt.kill, boxC, List.map_cons, List.map_nil, List.filter_cons, List.filter_nil, List.set_cons_succ, List.set_cons_zero, List.contains_cons, List.contains_nil, Nat.reduceBEq, Nat.reduceBNe, St.wrote, hitR, hitP, shapeOf, List.isPrefixOf, List.append_eq, Bool.and_true, Bool.true_and, Bool.and_false, Bool.false_and, List.nil_append, List.cons_append, beq_self_eq_true, bne_self_eq_false, Bool.or_false, Bool.or_true, Bool.not_true, Bool.not_false, Bool.false_eq_true, if_true, if_false, reduceIte, resT, valsD, refsD, refD, nextD, nextsD, cellsD, isSl, List.append_nil]
    refine hK _ ?_
    clear hK K
    refine TL.opK rfl fun K hK => ?_
    refine OpT.appendE rfl rfl rfl (sz := 1) rfl rfl rfl (by simp [isPlain, D.row, elD, cellD]) rfl rfl rfl rfl rfl rfl rfl (by simp; try omega) ?_ -- 11
    simp only [St.fresh, St.kill, St.setRoot, St.put, St.renew, TS.kill, TV.kill, C.kill, Rt.kill, boxC, List.map_cons, List.map_nil, List.filter_cons, List.filter_nil, List.set_cons_succ, List.set_cons_zero, List.contains_cons, List.contains_nil, Nat.reduceBEq, Nat.reduceBNe, St.wrote, hitR, hitP, shapeOf, List.isPrefixOf, List.append_eq, Bool.and_true, Bool.true_and, Bool.and_false, Bool.false_and, List.nil_append, List.cons_append, beq_self_eq_true, bne_self_eq_false, Bool.or_false, Bool.or_true, Bool.not_true, Bool.not_false, Bool.false_eq_true, if_true, if_false, reduceIte, resT, valsD, refsD, refD, nextD, nextsD, cellsD, isSl, List.append_nil]
    refine hK _ ?_
    clear hK K
    refine TL.valE rfl (Val.assign 1 rfl rfl) (by simp only [St.put, List.set_cons_succ, List.set_cons_zero]; rfl) ?_
    refine TL.nil ?_
    show TC _ _ _ _ _ _
    refine TC.seq ?_
    refine TC.seq ?_
    -- region 4
    refine TC.region ?_
    refine TL.valE rfl (by first | exact Val.field rfl rfl rfl | exact Val.fieldC rfl rfl rfl) (by simp only [St.put, List.set_cons_succ, List.set_cons_zero, List.getElem_toArray, List.getElem_cons_succ, List.getElem_cons_zero, Nat.zero_add, Nat.reduceAdd]; rfl) ?_
    refine TL.valE rfl (by first | exact Val.load rfl rfl rfl rfl rfl | exact Val.loadC rfl rfl rfl) (by simp only [St.put, List.set_cons_succ, List.set_cons_zero, valC]; rfl) ?_
    refine TL.callF (yes_none rfl) rfl rfl rfl rfl rfl rfl (impl_within_f _ _ _) (by repeat first | exact .nil | refine Snaps.cons (.ro _) ?_ | refine Snaps.cons (.aggRo rfl) ?_ | refine Snaps.cons (.cptr _) ?_ | refine Snaps.cons (.fn _) ?_ | refine Snaps.cons (.ownRef rfl (by first | assumption | exact w_IntS _ | exact w_IntSS _ | exact w_InsS _ | exact w_SlotS _ | exact w_GuestS _ | exact w_BareS _)) ?_ | refine Snaps.cons (.aggR (by repeat first | exact .nil | refine SnapCs.cons (.ro _) ?_ | refine SnapCs.cons (.ref rfl (by first | assumption | exact w_IntS _ | exact w_IntSS _ | exact w_InsS _ | exact w_SlotS _ | exact w_GuestS _ | exact w_BareS _)) ?_)) ?_) rfl (by simp only [St.put, List.set_cons_succ, List.set_cons_zero]; rfl) ?_
    refine TL.valE rfl (Val.not rfl rfl) (by simp only [St.put, List.set_cons_succ, List.set_cons_zero]; rfl) ?_
    refine TL.nil ?_
    show TC _ _ _ _ _ _
    refine TC.cond rfl (fun hb => ?_) (fun hb => ?_)
    · -- region 5
      refine TC.region ?_
      refine TL.valE rfl (Val.move 1 rfl rfl) (by simp only [St.put, List.set_cons_succ, List.set_cons_zero]; rfl) ?_
      refine TL.opK rfl fun K hK => ?_
      refine OpT.buildP rfl rfl (xs := [(Go.Operand.const (Go.Value.int Go.IntKind.i64 2))]) rfl rfl rfl rfl (sz := 1) rfl rfl rfl (by decide) (by decide) ?_ -- 17
      simp only [St.fresh, St.kill, St.setRoot, St.put, St.renew, TS.kill, TV.kill, C.kill, Rt.kill, boxC, List.map_cons, List.map_nil, List.filter_cons, List.filter_nil, List.set_cons_succ, List.set_cons_zero, List.contains_cons, List.contains_nil, Nat.reduceBEq, Nat.reduceBNe, St.wrote, hitR, hitP, shapeOf, List.isPrefixOf, List.append_eq, Bool.and_true, Bool.true_and, Bool.and_false, Bool.false_and, List.nil_append, List.cons_append, beq_self_eq_true, bne_self_eq_false, Bool.or_false, Bool.or_true, Bool.not_true, Bool.not_false, Bool.false_eq_true, if_true, if_false, reduceIte, resT, valsD, refsD, refD, nextD, nextsD, cellsD, isSl, List.append_nil]
      refine hK _ ?_
      clear hK K
      refine TL.opK rfl fun K hK => ?_
      refine OpT.appendE rfl rfl rfl (sz := 1) rfl rfl rfl (by simp [isPlain, D.row, elD, cellD]) rfl rfl rfl rfl rfl rfl rfl (by simp; try omega) ?_ -- 18
      simp only [St.fresh, St.kill, St.setRoot, St.put, St.renew, TS.kill, TV.kill, C.kill, Rt.kill, boxC, List.map_cons, List.map_nil, List.filter_cons, List.filter_nil, List.set_cons_succ, List.set_cons_zero, List.contains_cons, List.contains_nil, Nat.reduceBEq, Nat.reduceBNe, St.wrote, hitR, hitP, shapeOf, List.isPrefixOf, List.append_eq, Bool.and_true, Bool.true_and, Bool.and_false, Bool.false_and, List.nil_append, List.cons_append, beq_self_eq_true, bne_self_eq_false, Bool.or_false, Bool.or_true, Bool.not_true, Bool.not_false, Bool.false_eq_true, if_true, if_false, reduceIte, resT, valsD, refsD, refD, nextD, nextsD, cellsD, isSl, List.append_nil]
      refine hK _ ?_
      clear hK K
      refine TL.valE rfl (Val.assign 1 rfl rfl) (by simp only [St.put, List.set_cons_succ, List.set_cons_zero]; rfl) ?_
      refine TL.nil ?_
      show TC _ _ _ _ _ _
      refine TC.seq ?_
      refine TC.seq ?_
      -- region 6
      refine TC.region ?_
      refine TL.valE rfl (by first | exact Val.field rfl rfl rfl | exact Val.fieldC rfl rfl rfl) (by simp only [St.put, List.set_cons_succ, List.set_cons_zero, List.getElem_toArray, List.getElem_cons_succ, List.getElem_cons_zero, Nat.zero_add, Nat.reduceAdd]; rfl) ?_
      refine TL.valE rfl (by first | exact Val.load rfl rfl rfl rfl rfl | exact Val.loadC rfl rfl rfl) (by simp only [St.put, List.set_cons_succ, List.set_cons_zero, valC]; rfl) ?_
      refine TL.valE rfl (Val.neq rfl rfl rfl) (by simp only [St.put, List.set_cons_succ, List.set_cons_zero]; rfl) ?_
      refine TL.valE rfl (Val.move 1 rfl rfl) (by simp only [St.put, List.set_cons_succ, List.set_cons_zero]; rfl) ?_
      refine TL.splitG 3 rfl (fun hg3 => ?_) (fun hg3 => ?_)
      · refine TL.guardE rfl rfl hg3 (by first | exact Val.field rfl rfl rfl | exact Val.fieldC rfl rfl rfl) (by simp only [St.put, List.set_cons_succ, List.set_cons_zero, List.getElem_toArray, List.getElem_cons_succ, List.getElem_cons_zero, Nat.zero_add, Nat.reduceAdd]; rfl) ?_
        refine TL.guardE rfl rfl hg3 (by first | exact Val.load rfl rfl rfl rfl rfl | exact Val.loadC rfl rfl rfl) (by simp only [St.put, List.set_cons_succ, List.set_cons_zero, valC]; rfl) ?_
        refine TL.guardE rfl rfl hg3 (Val.not rfl rfl) (by simp only [St.put, List.set_cons_succ, List.set_cons_zero]; rfl) ?_
        refine TL.valE rfl (Val.pickT rfl rfl hg3 rfl) (by simp only [St.put, List.set_cons_succ, List.set_cons_zero]; rfl) ?_
        refine TL.nil ?_
        show TC _ _ _ _ _ _
        refine TC.cond rfl (fun hb => ?_) (fun hb => ?_)
        · -- region 7
          refine TC.region ?_
          refine TL.valE rfl (Val.move 1 rfl rfl) (by simp only [St.put, List.set_cons_succ, List.set_cons_zero]; rfl) ?_
          refine TL.opK rfl fun K hK => ?_
          refine OpT.buildP rfl rfl (xs := [(Go.Operand.const (Go.Value.int Go.IntKind.i64 3))]) rfl rfl rfl rfl (sz := 1) rfl rfl rfl (by decide) (by decide) ?_ -- 28
          simp only [St.fresh, St.kill, St.setRoot, St.put, St.renew, TS.kill, TV.kill, C.kill, Rt.kill, boxC, List.map_cons, List.map_nil, List.filter_cons, List.filter_nil, List.set_cons_succ, List.set_cons_zero, List.contains_cons, List.contains_nil, Nat.reduceBEq, Nat.reduceBNe, St.wrote, hitR, hitP, shapeOf, List.isPrefixOf, List.append_eq, Bool.and_true, Bool.true_and, Bool.and_false, Bool.false_and, List.nil_append, List.cons_append, beq_self_eq_true, bne_self_eq_false, Bool.or_false, Bool.or_true, Bool.not_true, Bool.not_false, Bool.false_eq_true, if_true, if_false, reduceIte, resT, valsD, refsD, refD, nextD, nextsD, cellsD, isSl, List.append_nil]
          refine hK _ ?_
          clear hK K
          refine TL.opK rfl fun K hK => ?_
          refine OpT.appendE rfl rfl rfl (sz := 1) rfl rfl rfl (by simp [isPlain, D.row, elD, cellD]) rfl rfl rfl rfl rfl rfl rfl (by simp; try omega) ?_ -- 29
          simp only [St.fresh, St.kill, St.setRoot, St.put, St.renew, TS.kill, TV.kill, C.kill, Rt.kill, boxC, List.map_cons, List.map_nil, List.filter_cons, List.filter_nil, List.set_cons_succ, List.set_cons_zero, List.contains_cons, List.contains_nil, Nat.reduceBEq, Nat.reduceBNe, St.wrote, hitR, hitP, shapeOf, List.isPrefixOf, List.append_eq, Bool.and_true, Bool.true_and, Bool.and_false, Bool.false_and, List.nil_append, List.cons_append, beq_self_eq_true, bne_self_eq_false, Bool.or_false, Bool.or_true, Bool.not_true, Bool.not_false, Bool.false_eq_true, if_true, if_false, reduceIte, resT, valsD, refsD, refD, nextD, nextsD, cellsD, isSl, List.append_nil]
          refine hK _ ?_
          clear hK K
          refine TL.valE rfl (Val.assign 1 rfl rfl) (by simp only [St.put, List.set_cons_succ, List.set_cons_zero]; rfl) ?_
          refine TL.nil ?_
          show TC _ _ _ _ _ _
          refine TC.seq ?_
          refine TC.seq ?_
          -- region 8
          refine TC.region ?_
          refine TL.valE rfl (by first | exact Val.field rfl rfl rfl | exact Val.fieldC rfl rfl rfl) (by simp only [St.put, List.set_cons_succ, List.set_cons_zero, List.getElem_toArray, List.getElem_cons_succ, List.getElem_cons_zero, Nat.zero_add, Nat.reduceAdd]; rfl) ?_
          refine TL.valE rfl (by first | exact Val.load rfl rfl rfl rfl rfl | exact Val.loadC rfl rfl rfl) (by simp only [St.put, List.set_cons_succ, List.set_cons_zero, valC]; rfl) ?_
          refine TL.valE rfl (Val.eql rfl rfl rfl) (by simp only [St.put, List.set_cons_succ, List.set_cons_zero]; rfl) ?_
          refine TL.valE rfl (Val.move 1 rfl rfl) (by simp only [St.put, List.set_cons_succ, List.set_cons_zero]; rfl) ?_
          refine TL.splitG 3 rfl (fun hg3 => ?_) (fun hg3 => ?_)
          · refine TL.guardE rfl rfl hg3 (by first | exact Val.field rfl rfl rfl | exact Val.fieldC rfl rfl rfl) (by simp only [St.put, List.set_cons_succ, List.set_cons_zero, List.getElem_toArray, List.getElem_cons_succ, List.getElem_cons_zero, Nat.zero_add, Nat.reduceAdd]; rfl) ?_
            refine TL.guardE rfl rfl hg3 (by first | exact Val.load rfl rfl rfl rfl rfl | exact Val.loadC rfl rfl rfl) (by simp only [St.put, List.set_cons_succ, List.set_cons_zero, valC]; rfl) ?_
            refine TL.guardE rfl rfl hg3 (Val.neq rfl rfl rfl) (by simp only [St.put, List.set_cons_succ, List.set_cons_zero]; rfl) ?_
            refine TL.valE rfl (Val.pickT rfl rfl hg3 rfl) (by simp only [St.put, List.set_cons_succ, List.set_cons_zero]; rfl) ?_
            refine TL.nil ?_
            show TC _ _ _ _ _ _
            refine TC.cond rfl (fun hb => ?_) (fun hb => ?_)
            · -- region 9
              refine TC.region ?_
              refine TL.valE rfl (Val.move 1 rfl rfl) (by simp only [St.put, List.set_cons_succ, List.set_cons_zero]; rfl) ?_
              refine TL.opK rfl fun K hK => ?_
              refine OpT.buildP rfl rfl (xs := [(Go.Operand.const (Go.Value.int Go.IntKind.i64 4))]) rfl rfl rfl rfl (sz := 1) rfl rfl rfl (by decide) (by decide) ?_ -- 39
              simp only [St.fresh, St.kill, St.setRoot, St.put, St.renew, TS.kill, TV.kill, C.kill, Rt.kill, boxC, List.map_cons, List.map_nil, List.filter_cons, List.filter_nil, List.set_cons_succ, List.set_cons_zero, List.contains_cons, List.contains_nil, Nat.reduceBEq, Nat.reduceBNe, St.wrote, hitR, hitP, shapeOf, List.isPrefixOf, List.append_eq, Bool.and_true, Bool.true_and, Bool.and_false, Bool.false_and, List.nil_append, List.cons_append, beq_self_eq_true, bne_self_eq_false, Bool.or_false, Bool.or_true, Bool.not_true, Bool.not_false, Bool.false_eq_true, if_true, if_false, reduceIte, resT, valsD, refsD, refD, nextD, nextsD, cellsD, isSl, List.append_nil]
              refine hK _ ?_
              clear hK K
              refine TL.opK rfl fun K hK => ?_
              refine OpT.appendE rfl rfl rfl (sz := 1) rfl rfl rfl (by simp [isPlain, D.row, elD, cellD]) rfl rfl rfl rfl rfl rfl rfl (by simp; try omega) ?_ -- 40
              simp only [St.fresh, St.kill, St.setRoot, St.put, St.renew, TS.kill, TV.kill, C.kill, Rt.kill, boxC, List.map_cons, List.map_nil, List.filter_cons, List.filter_nil, List.set_cons_succ, List.set_cons_zero, List.contains_cons, List.contains_nil, Nat.reduceBEq, Nat.reduceBNe, St.wrote, hitR, hitP, shapeOf, List.isPrefixOf, List.append_eq, Bool.and_true, Bool.true_and, Bool.and_false, Bool.false_and, List.nil_append, List.cons_append, beq_self_eq_true, bne_self_eq_false, Bool.or_false, Bool.or_true, Bool.not_true, Bool.not_false, Bool.false_eq_true, if_true, if_false, reduceIte, resT, valsD, refsD, refD, nextD, nextsD, cellsD, isSl, List.append_nil]
              refine hK _ ?_
              clear hK K
              refine TL.valE rfl (Val.assign 1 rfl rfl) (by simp only [St.put, List.set_cons_succ, List.set_cons_zero]; rfl) ?_
              refine TL.nil ?_
              show TC _ _ _ _ _ _
              refine TC.seq ?_
              -- region 10
              refine TC.region ?_
              refine TL.valE rfl (Val.move 1 rfl rfl) (by simp only [St.put, List.set_cons_succ, List.set_cons_zero]; rfl) ?_
              refine TL.valE rfl (Val.assign 1 rfl rfl) (by simp only [St.put, List.set_cons_succ, List.set_cons_zero]; rfl) ?_
              refine TL.nil ?_
              show TC _ _ _ _ _ _
              refine TC.ret ?_
              exact ⟨.inr rfl, [_], [_], _, rfl, by decide, rfl, by simp [refV, refC, valC], rfl, resL (by simp_all [ctlFaults, elD, cellD])⟩
            · refine TC.skip ?_
              show TC _ _ _ _ _ _
              refine TC.seq ?_
              -- region 10
              refine TC.region ?_
              refine TL.valE rfl (Val.move 1 rfl rfl) (by simp only [St.put, List.set_cons_succ, List.set_cons_zero]; rfl) ?_
              refine TL.valE rfl (Val.assign 1 rfl rfl) (by simp only [St.put, List.set_cons_succ, List.set_cons_zero]; rfl) ?_
              refine TL.nil ?_
              show TC _ _ _ _ _ _
              refine TC.ret ?_
              exact ⟨.inr rfl, [_], [_], _, rfl, by decide, rfl, by simp [refV, refC, valC], rfl, resL (by simp_all [ctlFaults, elD, cellD])⟩
          · iterate 3 (refine TL.skip (nope_b rfl rfl hg3) (by simp only [St.put, List.set_cons_succ, List.set_cons_zero]; rfl) ?_)
            refine TL.valE rfl (Val.pickF rfl rfl hg3 rfl) (by simp only [St.put, List.set_cons_succ, List.set_cons_zero]; rfl) ?_
            refine TL.nil ?_
            show TC _ _ _ _ _ _
            refine TC.cond rfl (fun hb => absurd hb (by simp)) (fun hb => ?_)
            refine TC.skip ?_
            show TC _ _ _ _ _ _
            refine TC.seq ?_
            -- region 10
            refine TC.region ?_
            refine TL.valE rfl (Val.move 1 rfl rfl) (by simp only [St.put, List.set_cons_succ, List.set_cons_zero]; rfl) ?_
            refine TL.valE rfl (Val.assign 1 rfl rfl) (by simp only [St.put, List.set_cons_succ, List.set_cons_zero]; rfl) ?_
            refine TL.nil ?_
            show TC _ _ _ _ _ _
            refine TC.ret ?_
            exact ⟨.inr rfl, [_], [_], _, rfl, by decide, rfl, by simp [refV, refC, valC], rfl, resL (by simp_all [ctlFaults, elD, cellD])⟩
        · refine TC.skip ?_
          show TC _ _ _ _ _ _
          refine TC.seq ?_
          refine TC.seq ?_
          -- region 8
          refine TC.region ?_
          refine TL.valE rfl (by first | exact Val.field rfl rfl rfl | exact Val.fieldC rfl rfl rfl) (by simp only [St.put, List.set_cons_succ, List.set_cons_zero, List.getElem_toArray, List.getElem_cons_succ, List.getElem_cons_zero, Nat.zero_add, Nat.reduceAdd]; rfl) ?_
          refine TL.valE rfl (by first | exact Val.load rfl rfl rfl rfl rfl | exact Val.loadC rfl rfl rfl) (by simp only [St.put, List.set_cons_succ, List.set_cons_zero, valC]; rfl) ?_
          refine TL.valE rfl (Val.eql rfl rfl rfl) (by simp only [St.put, List.set_cons_succ, List.set_cons_zero]; rfl) ?_
          refine TL.valE rfl (Val.move 1 rfl rfl) (by simp only [St.put, List.set_cons_succ, List.set_cons_zero]; rfl) ?_
          refine TL.splitG 3 rfl (fun hg3 => ?_) (fun hg3 => ?_)
          · refine TL.guardE rfl rfl hg3 (by first | exact Val.field rfl rfl rfl | exact Val.fieldC rfl rfl rfl) (by simp only [St.put, List.set_cons_succ, List.set_cons_zero, List.getElem_toArray, List.getElem_cons_succ, List.getElem_cons_zero, Nat.zero_add, Nat.reduceAdd]; rfl) ?_
            refine TL.guardE rfl rfl hg3 (by first | exact Val.load rfl rfl rfl rfl rfl | exact Val.loadC rfl rfl rfl) (by simp only [St.put, List.set_cons_succ, List.set_cons_zero, valC]; rfl) ?_
            refine TL.guardE rfl rfl hg3 (Val.neq rfl rfl rfl) (by simp only [St.put, List.set_cons_succ, List.set_cons_zero]; rfl) ?_
            refine TL.valE rfl (Val.pickT rfl rfl hg3 rfl) (by simp only [St.put, List.set_cons_succ, List.set_cons_zero]; rfl) ?_
            refine TL.nil ?_
            show TC _ _ _ _ _ _
            refine TC.cond rfl (fun hb => ?_) (fun hb => ?_)
            · -- region 9
              refine TC.region ?_
              refine TL.valE rfl (Val.move 1 rfl rfl) (by simp only [St.put, List.set_cons_succ, List.set_cons_zero]; rfl) ?_
              refine TL.opK rfl fun K hK => ?_
              refine OpT.buildP rfl rfl (xs := [(Go.Operand.const (Go.Value.int Go.IntKind.i64 4))]) rfl rfl rfl rfl (sz := 1) rfl rfl rfl (by decide) (by decide) ?_ -- 39
              simp only [St.fresh, St.kill, St.setRoot, St.put, St.renew, TS.kill, TV.kill, C.kill, Rt.kill, boxC, List.map_cons, List.map_nil, List.filter_cons, List.filter_nil, List.set_cons_succ, List.set_cons_zero, List.contains_cons, List.contains_nil, Nat.reduceBEq, Nat.reduceBNe, St.wrote, hitR, hitP, shapeOf, List.isPrefixOf, List.append_eq, Bool.and_true, Bool.true_and, Bool.and_false, Bool.false_and, List.nil_append, List.cons_append, beq_self_eq_true, bne_self_eq_false, Bool.or_false, Bool.or_true, Bool.not_true, Bool.not_false, Bool.false_eq_true, if_true, if_false, reduceIte, resT, valsD, refsD, refD, nextD, nextsD, cellsD, isSl, List.append_nil]
              refine hK _ ?_
              clear hK K
              refine TL.opK rfl fun K hK => ?_
              refine OpT.appendE rfl rfl rfl (sz := 1) rfl rfl rfl (by simp [isPlain, D.row, elD, cellD]) rfl rfl rfl rfl rfl rfl rfl (by simp; try omega) ?_ -- 40
              simp only [St.fresh, St.kill, St.setRoot, St.put, St.renew, TS.kill, TV.kill, C.kill, Rt.kill, boxC, List.map_cons, List.map_nil, List.filter_cons, List.filter_nil, List.set_cons_succ, List.set_cons_zero, List.contains_cons, List.contains_nil, Nat.reduceBEq, Nat.reduceBNe, St.wrote, hitR, hitP, shapeOf, List.isPrefixOf, List.append_eq, Bool.and_true, Bool.true_and, Bool.and_false, Bool.false_and, List.nil_append, List.cons_append, beq_self_eq_true, bne_self_eq_false, Bool.or_false, Bool.or_true, Bool.not_true, Bool.not_false, Bool.false_eq_true, if_true, if_false, reduceIte, resT, valsD, refsD, refD, nextD, nextsD, cellsD, isSl, List.append_nil]
              refine hK _ ?_
              clear hK K
              refine TL.valE rfl (Val.assign 1 rfl rfl) (by simp only [St.put, List.set_cons_succ, List.set_cons_zero]; rfl) ?_
              refine TL.nil ?_
              show TC _ _ _ _ _ _
              refine TC.seq ?_
              -- region 10
              refine TC.region ?_
              refine TL.valE rfl (Val.move 1 rfl rfl) (by simp only [St.put, List.set_cons_succ, List.set_cons_zero]; rfl) ?_
              refine TL.valE rfl (Val.assign 1 rfl rfl) (by simp only [St.put, List.set_cons_succ, List.set_cons_zero]; rfl) ?_
              refine TL.nil ?_
              show TC _ _ _ _ _ _
              refine TC.ret ?_
              exact ⟨.inr rfl, [_], [_], _, rfl, by decide, rfl, by simp [refV, refC, valC], rfl, resL (by simp_all [ctlFaults, elD, cellD])⟩
            · refine TC.skip ?_
              show TC _ _ _ _ _ _
              refine TC.seq ?_
              -- region 10
              refine TC.region ?_
              refine TL.valE rfl (Val.move 1 rfl rfl) (by simp only [St.put, List.set_cons_succ, List.set_cons_zero]; rfl) ?_
              refine TL.valE rfl (Val.assign 1 rfl rfl) (by simp only [St.put, List.set_cons_succ, List.set_cons_zero]; rfl) ?_
              refine TL.nil ?_
              show TC _ _ _ _ _ _
              refine TC.ret ?_
              exact ⟨.inr rfl, [_], [_], _, rfl, by decide, rfl, by simp [refV, refC, valC], rfl, resL (by simp_all [ctlFaults, elD, cellD])⟩
          · iterate 3 (refine TL.skip (nope_b rfl rfl hg3) (by simp only [St.put, List.set_cons_succ, List.set_cons_zero]; rfl) ?_)
            refine TL.valE rfl (Val.pickF rfl rfl hg3 rfl) (by simp only [St.put, List.set_cons_succ, List.set_cons_zero]; rfl) ?_
            refine TL.nil ?_
            show TC _ _ _ _ _ _
            refine TC.cond rfl (fun hb => absurd hb (by simp)) (fun hb => ?_)
            refine TC.skip ?_
            show TC _ _ _ _ _ _
            refine TC.seq ?_
            -- region 10
            refine TC.region ?_
            refine TL.valE rfl (Val.move 1 rfl rfl) (by simp only [St.put, List.set_cons_succ, List.set_cons_zero]; rfl) ?_
            refine TL.valE rfl (Val.assign 1 rfl rfl) (by simp only [St.put, List.set_cons_succ, List.set_cons_zero]; rfl) ?_
            refine TL.nil ?_
            show TC _ _ _ _ _ _
            refine TC.ret ?_
            exact ⟨.inr rfl, [_], [_], _, rfl, by decide, rfl, by simp [refV, refC, valC], rfl, resL (by simp_all [ctlFaults, elD, cellD])⟩
      · iterate 3 (refine TL.skip (nope_b rfl rfl hg3) (by simp only [St.put, List.set_cons_succ, List.set_cons_zero]; rfl) ?_)
        refine TL.valE rfl (Val.pickF rfl rfl hg3 rfl) (by simp only [St.put, List.set_cons_succ, List.set_cons_zero]; rfl) ?_
        refine TL.nil ?_
        show TC _ _ _ _ _ _
        refine TC.cond rfl (fun hb => absurd hb (by simp)) (fun hb => ?_)
        refine TC.skip ?_
        show TC _ _ _ _ _ _
        refine TC.seq ?_
        refine TC.seq ?_
        -- region 8
        refine TC.region ?_
        refine TL.valE rfl (by first | exact Val.field rfl rfl rfl | exact Val.fieldC rfl rfl rfl) (by simp only [St.put, List.set_cons_succ, List.set_cons_zero, List.getElem_toArray, List.getElem_cons_succ, List.getElem_cons_zero, Nat.zero_add, Nat.reduceAdd]; rfl) ?_
        refine TL.valE rfl (by first | exact Val.load rfl rfl rfl rfl rfl | exact Val.loadC rfl rfl rfl) (by simp only [St.put, List.set_cons_succ, List.set_cons_zero, valC]; rfl) ?_
        refine TL.valE rfl (Val.eql rfl rfl rfl) (by simp only [St.put, List.set_cons_succ, List.set_cons_zero]; rfl) ?_
        refine TL.valE rfl (Val.move 1 rfl rfl) (by simp only [St.put, List.set_cons_succ, List.set_cons_zero]; rfl) ?_
        refine TL.splitG 3 rfl (fun hg3 => ?_) (fun hg3 => ?_)
        · refine TL.guardE rfl rfl hg3 (by first | exact Val.field rfl rfl rfl | exact Val.fieldC rfl rfl rfl) (by simp only [St.put, List.set_cons_succ, List.set_cons_zero, List.getElem_toArray, List.getElem_cons_succ, List.getElem_cons_zero, Nat.zero_add, Nat.reduceAdd]; rfl) ?_
          refine TL.guardE rfl rfl hg3 (by first | exact Val.load rfl rfl rfl rfl rfl | exact Val.loadC rfl rfl rfl) (by simp only [St.put, List.set_cons_succ, List.set_cons_zero, valC]; rfl) ?_
          refine TL.guardE rfl rfl hg3 (Val.neq rfl rfl rfl) (by simp only [St.put, List.set_cons_succ, List.set_cons_zero]; rfl) ?_
          refine TL.valE rfl (Val.pickT rfl rfl hg3 rfl) (by simp only [St.put, List.set_cons_succ, List.set_cons_zero]; rfl) ?_
          refine TL.nil ?_
          show TC _ _ _ _ _ _
          refine TC.cond rfl (fun hb => ?_) (fun hb => ?_)
          · -- region 9
            refine TC.region ?_
            refine TL.valE rfl (Val.move 1 rfl rfl) (by simp only [St.put, List.set_cons_succ, List.set_cons_zero]; rfl) ?_
            refine TL.opK rfl fun K hK => ?_
            refine OpT.buildP rfl rfl (xs := [(Go.Operand.const (Go.Value.int Go.IntKind.i64 4))]) rfl rfl rfl rfl (sz := 1) rfl rfl rfl (by decide) (by decide) ?_ -- 39
            simp only [St.fresh, St.kill, St.setRoot, St.put, St.renew, TS.kill, TV.kill, C.kill, Rt.kill, boxC, List.map_cons, List.map_nil, List.filter_cons, List.filter_nil, List.set_cons_succ, List.set_cons_zero, List.contains_cons, List.contains_nil, Nat.reduceBEq, Nat.reduceBNe, St.wrote, hitR, hitP, shapeOf, List.isPrefixOf, List.append_eq, Bool.and_true, Bool.true_and, Bool.and_false, Bool.false_and, List.nil_append, List.cons_append, beq_self_eq_true, bne_self_eq_false, Bool.or_false, Bool.or_true, Bool.not_true, Bool.not_false, Bool.false_eq_true, if_true, if_false, reduceIte, resT, valsD, refsD, refD, nextD, nextsD, cellsD, isSl, List.append_nil]
            refine hK _ ?_
            clear hK K
            refine TL.opK rfl fun K hK => ?_
            refine OpT.appendE rfl rfl rfl (sz := 1) rfl rfl rfl (by simp [isPlain, D.row, elD, cellD]) rfl rfl rfl rfl rfl rfl rfl (by simp; try omega) ?_ -- 40
            simp only [St.fresh, St.kill, St.setRoot, St.put, St.renew, TS.kill, TV.kill, C.kill, Rt.kill, boxC, List.map_cons, List.map_nil, List.filter_cons, List.filter_nil, List.set_cons_succ, List.set_cons_zero, List.contains_cons, List.contains_nil, Nat.reduceBEq, Nat.reduceBNe, St.wrote, hitR, hitP, shapeOf, List.isPrefixOf, List.append_eq, Bool.and_true, Bool.true_and, Bool.and_false, Bool.false_and, List.nil_append, List.cons_append, beq_self_eq_true, bne_self_eq_false, Bool.or_false, Bool.or_true, Bool.not_true, Bool.not_false, Bool.false_eq_true, if_true, if_false, reduceIte, resT, valsD, refsD, refD, nextD, nextsD, cellsD, isSl, List.append_nil]
            refine hK _ ?_
            clear hK K
            refine TL.valE rfl (Val.assign 1 rfl rfl) (by simp only [St.put, List.set_cons_succ, List.set_cons_zero]; rfl) ?_
            refine TL.nil ?_
            show TC _ _ _ _ _ _
            refine TC.seq ?_
            -- region 10
            refine TC.region ?_
            refine TL.valE rfl (Val.move 1 rfl rfl) (by simp only [St.put, List.set_cons_succ, List.set_cons_zero]; rfl) ?_
            refine TL.valE rfl (Val.assign 1 rfl rfl) (by simp only [St.put, List.set_cons_succ, List.set_cons_zero]; rfl) ?_
            refine TL.nil ?_
            show TC _ _ _ _ _ _
            refine TC.ret ?_
            exact ⟨.inr rfl, [_], [_], _, rfl, by decide, rfl, by simp [refV, refC, valC], rfl, resL (by simp_all [ctlFaults, elD, cellD])⟩
          · refine TC.skip ?_
            show TC _ _ _ _ _ _
            refine TC.seq ?_
            -- region 10
            refine TC.region ?_
            refine TL.valE rfl (Val.move 1 rfl rfl) (by simp only [St.put, List.set_cons_succ, List.set_cons_zero]; rfl) ?_
            refine TL.valE rfl (Val.assign 1 rfl rfl) (by simp only [St.put, List.set_cons_succ, List.set_cons_zero]; rfl) ?_
            refine TL.nil ?_
            show TC _ _ _ _ _ _
            refine TC.ret ?_
            exact ⟨.inr rfl, [_], [_], _, rfl, by decide, rfl, by simp [refV, refC, valC], rfl, resL (by simp_all [ctlFaults, elD, cellD])⟩
        · iterate 3 (refine TL.skip (nope_b rfl rfl hg3) (by simp only [St.put, List.set_cons_succ, List.set_cons_zero]; rfl) ?_)
          refine TL.valE rfl (Val.pickF rfl rfl hg3 rfl) (by simp only [St.put, List.set_cons_succ, List.set_cons_zero]; rfl) ?_
          refine TL.nil ?_
          show TC _ _ _ _ _ _
          refine TC.cond rfl (fun hb => absurd hb (by simp)) (fun hb => ?_)
          refine TC.skip ?_
          show TC _ _ _ _ _ _
          refine TC.seq ?_
          -- region 10
          refine TC.region ?_
          refine TL.valE rfl (Val.move 1 rfl rfl) (by simp only [St.put, List.set_cons_succ, List.set_cons_zero]; rfl) ?_
          refine TL.valE rfl (Val.assign 1 rfl rfl) (by simp only [St.put, List.set_cons_succ, List.set_cons_zero]; rfl) ?_
          refine TL.nil ?_
          show TC _ _ _ _ _ _
          refine TC.ret ?_
          exact ⟨.inr rfl, [_], [_], _, rfl, by decide, rfl, by simp [refV, refC, valC], rfl, resL (by simp_all [ctlFaults, elD, cellD])⟩
    · refine TC.skip ?_
      show TC _ _ _ _ _ _
      refine TC.seq ?_
      refine TC.seq ?_
      -- region 6
      refine TC.region ?_
      refine TL.valE rfl (by first | exact Val.field rfl rfl rfl | exact Val.fieldC rfl rfl rfl) (by simp only [St.put, List.set_cons_succ, List.set_cons_zero, List.getElem_toArray, List.getElem_cons_succ, List.getElem_cons_zero, Nat.zero_add, Nat.reduceAdd]; rfl) ?_
      refine TL.valE rfl (by first | exact Val.load rfl rfl rfl rfl rfl | exact Val.loadC rfl rfl rfl) (by simp only [St.put, List.set_cons_succ, List.set_cons_zero, valC]; rfl) ?_
      refine TL.valE rfl (Val.neq rfl rfl rfl) (by simp only [St.put, List.set_cons_succ, List.set_cons_zero]; rfl) ?_
      refine TL.valE rfl (Val.move 1 rfl rfl) (by simp only [St.put, List.set_cons_succ, List.set_cons_zero]; rfl) ?_
      refine TL.splitG 3 rfl (fun hg3 => ?_) (fun hg3 => ?_)
      · refine TL.guardE rfl rfl hg3 (by first | exact Val.field rfl rfl rfl | exact Val.fieldC rfl rfl rfl) (by simp only [St.put, List.set_cons_succ, List.set_cons_zero, List.getElem_toArray, List.getElem_cons_succ, List.getElem_cons_zero, Nat.zero_add, Nat.reduceAdd]; rfl) ?_
        refine TL.guardE rfl rfl hg3 (by first | exact Val.load rfl rfl rfl rfl rfl | exact Val.loadC rfl rfl rfl) (by simp only [St.put, List.set_cons_succ, List.set_cons_zero, valC]; rfl) ?_
        refine TL.guardE rfl rfl hg3 (Val.not rfl rfl) (by simp only [St.put, List.set_cons_succ, List.set_cons_zero]; rfl) ?_
        refine TL.valE rfl (Val.pickT rfl rfl hg3 rfl) (by simp only [St.put, List.set_cons_succ, List.set_cons_zero]; rfl) ?_
        refine TL.nil ?_
        show TC _ _ _ _ _ _
        refine TC.cond rfl (fun hb => ?_) (fun hb => ?_)
        · -- region 7
          refine TC.region ?_
          refine TL.valE rfl (Val.move 1 rfl rfl) (by simp only [St.put, List.set_cons_succ, List.set_cons_zero]; rfl) ?_
          refine TL.opK rfl fun K hK => ?_
          refine OpT.buildP rfl rfl (xs := [(Go.Operand.const (Go.Value.int Go.IntKind.i64 3))]) rfl rfl rfl rfl (sz := 1) rfl rfl rfl (by decide) (by decide) ?_ -- 28
          simp only [St.fresh, St.kill, St.setRoot, St.put, St.renew, TS.kill, TV.kill, C.kill, Rt.kill, boxC, List.map_cons, List.map_nil, List.filter_cons, List.filter_nil, List.set_cons_succ, List.set_cons_zero, List.contains_cons, List.contains_nil, Nat.reduceBEq, Nat.reduceBNe, St.wrote, hitR, hitP, shapeOf, List.isPrefixOf, List.append_eq, Bool.and_true, Bool.true_and, Bool.and_false, Bool.false_and, List.nil_append, List.cons_append, beq_self_eq_true, bne_self_eq_false, Bool.or_false, Bool.or_true, Bool.not_true, Bool.not_false, Bool.false_eq_true, if_true, if_false, reduceIte, resT, valsD, refsD, refD, nextD, nextsD, cellsD, isSl, List.append_nil]
          refine hK _ ?_
          clear hK K
          refine TL.opK rfl fun K hK => ?_
          refine OpT.appendE rfl rfl rfl (sz := 1) rfl rfl rfl (by simp [isPlain, D.row, elD, cellD]) rfl rfl rfl rfl rfl rfl rfl (by simp; try omega) ?_ -- 29
          simp only [St.fresh, St.kill, St.setRoot, St.put, St.renew, TS.kill, TV.kill, C.kill, Rt.kill, boxC, List.map_cons, List.map_nil, List.filter_cons, List.filter_nil, List.set_cons_succ, List.set_cons_zero, List.contains_cons, List.contains_nil, Nat.reduceBEq, Nat.reduceBNe, St.wrote, hitR, hitP, shapeOf, List.isPrefixOf, List.append_eq, Bool.and_true, Bool.true_and, Bool.and_false, Bool.false_and, List.nil_append, List.cons_append, beq_self_eq_true, bne_self_eq_false, Bool.or_false, Bool.or_true, Bool.not_true, Bool.not_false, Bool.false_eq_true, if_true, if_false, reduceIte, resT, valsD, refsD, refD, nextD, nextsD, cellsD, isSl, List.append_nil]
          refine hK _ ?_
          clear hK K
          refine TL.valE rfl (Val.assign 1 rfl rfl) (by simp only [St.put, List.set_cons_succ, List.set_cons_zero]; rfl) ?_
          refine TL.nil ?_
          show TC _ _ _ _ _ _
          refine TC.seq ?_
          refine TC.seq ?_
          -- region 8
          refine TC.region ?_
          refine TL.valE rfl (by first | exact Val.field rfl rfl rfl | exact Val.fieldC rfl rfl rfl) (by simp only [St.put, List.set_cons_succ, List.set_cons_zero, List.getElem_toArray, List.getElem_cons_succ, List.getElem_cons_zero, Nat.zero_add, Nat.reduceAdd]; rfl) ?_
          refine TL.valE rfl (by first | exact Val.load rfl rfl rfl rfl rfl | exact Val.loadC rfl rfl rfl) (by simp only [St.put, List.set_cons_succ, List.set_cons_zero, valC]; rfl) ?_
          refine TL.valE rfl (Val.eql rfl rfl rfl) (by simp only [St.put, List.set_cons_succ, List.set_cons_zero]; rfl) ?_
          refine TL.valE rfl (Val.move 1 rfl rfl) (by simp only [St.put, List.set_cons_succ, List.set_cons_zero]; rfl) ?_
          refine TL.splitG 3 rfl (fun hg3 => ?_) (fun hg3 => ?_)
          · refine TL.guardE rfl rfl hg3 (by first | exact Val.field rfl rfl rfl | exact Val.fieldC rfl rfl rfl) (by simp only [St.put, List.set_cons_succ, List.set_cons_zero, List.getElem_toArray, List.getElem_cons_succ, List.getElem_cons_zero, Nat.zero_add, Nat.reduceAdd]; rfl) ?_
            refine TL.guardE rfl rfl hg3 (by first | exact Val.load rfl rfl rfl rfl rfl | exact Val.loadC rfl rfl rfl) (by simp only [St.put, List.set_cons_succ, List.set_cons_zero, valC]; rfl) ?_
            refine TL.guardE rfl rfl hg3 (Val.neq rfl rfl rfl) (by simp only [St.put, List.set_cons_succ, List.set_cons_zero]; rfl) ?_
            refine TL.valE rfl (Val.pickT rfl rfl hg3 rfl) (by simp only [St.put, List.set_cons_succ, List.set_cons_zero]; rfl) ?_
            refine TL.nil ?_
            show TC _ _ _ _ _ _
            refine TC.cond rfl (fun hb => ?_) (fun hb => ?_)
            · -- region 9
              refine TC.region ?_
              refine TL.valE rfl (Val.move 1 rfl rfl) (by simp only [St.put, List.set_cons_succ, List.set_cons_zero]; rfl) ?_
              refine TL.opK rfl fun K hK => ?_
              refine OpT.buildP rfl rfl (xs := [(Go.Operand.const (Go.Value.int Go.IntKind.i64 4))]) rfl rfl rfl rfl (sz := 1) rfl rfl rfl (by decide) (by decide) ?_ -- 39
              simp only [St.fresh, St.kill, St.setRoot, St.put, St.renew, TS.kill, TV.kill, C.kill, Rt.kill, boxC, List.map_cons, List.map_nil, List.filter_cons, List.filter_nil, List.set_cons_succ, List.set_cons_zero, List.contains_cons, List.contains_nil, Nat.reduceBEq, Nat.reduceBNe, St.wrote, hitR, hitP, shapeOf, List.isPrefixOf, List.append_eq, Bool.and_true, Bool.true_and, Bool.and_false, Bool.false_and, List.nil_append, List.cons_append, beq_self_eq_true, bne_self_eq_false, Bool.or_false, Bool.or_true, Bool.not_true, Bool.not_false, Bool.false_eq_true, if_true, if_false, reduceIte, resT, valsD, refsD, refD, nextD, nextsD, cellsD, isSl, List.append_nil]
              refine hK _ ?_
              clear hK K
              refine TL.opK rfl fun K hK => ?_
              refine OpT.appendE rfl rfl rfl (sz := 1) rfl rfl rfl (by simp [isPlain, D.row, elD, cellD]) rfl rfl rfl rfl rfl rfl rfl (by simp; try omega) ?_ -- 40
              simp only [St.fresh, St.kill, St.setRoot, St.put, St.renew, TS.kill, TV.kill, C.kill, Rt.kill, boxC, List.map_cons, List.map_nil, List.filter_cons, List.filter_nil, List.set_cons_succ, List.set_cons_zero, List.contains_cons, List.contains_nil, Nat.reduceBEq, Nat.reduceBNe, St.wrote, hitR, hitP, shapeOf, List.isPrefixOf, List.append_eq, Bool.and_true, Bool.true_and, Bool.and_false, Bool.false_and, List.nil_append, List.cons_append, beq_self_eq_true, bne_self_eq_false, Bool.or_false, Bool.or_true, Bool.not_true, Bool.not_false, Bool.false_eq_true, if_true, if_false, reduceIte, resT, valsD, refsD, refD, nextD, nextsD, cellsD, isSl, List.append_nil]
              refine hK _ ?_
              clear hK K
              refine TL.valE rfl (Val.assign 1 rfl rfl) (by simp only [St.put, List.set_cons_succ, List.set_cons_zero]; rfl) ?_
              refine TL.nil ?_
              show TC _ _ _ _ _ _
              refine TC.seq ?_
              -- region 10
              refine TC.region ?_
              refine TL.valE rfl (Val.move 1 rfl rfl) (by simp only [St.put, List.set_cons_succ, List.set_cons_zero]; rfl) ?_
              refine TL.valE rfl (Val.assign 1 rfl rfl) (by simp only [St.put, List.set_cons_succ, List.set_cons_zero]; rfl) ?_
              refine TL.nil ?_
              show TC _ _ _ _ _ _
              refine TC.ret ?_
              exact ⟨.inr rfl, [_], [_], _, rfl, by decide, rfl, by simp [refV, refC, valC], rfl, resL (by simp_all [ctlFaults, elD, cellD])⟩
            · refine TC.skip ?_
              show TC _ _ _ _ _ _
              refine TC.seq ?_
              -- region 10
              refine TC.region ?_
              refine TL.valE rfl (Val.move 1 rfl rfl) (by simp only [St.put, List.set_cons_succ, List.set_cons_zero]; rfl) ?_
              refine TL.valE rfl (Val.assign 1 rfl rfl) (by simp only [St.put, List.set_cons_succ, List.set_cons_zero]; rfl) ?_
              refine TL.nil ?_
              show TC _ _ _ _ _ _
              refine TC.ret ?_
              exact ⟨.inr rfl, [_], [_], _, rfl, by decide, rfl, by simp [refV, refC, valC], rfl, resL (by simp_all [ctlFaults, elD, cellD])⟩
          · iterate 3 (refine TL.skip (nope_b rfl rfl hg3) (by simp only [St.put, List.set_cons_succ, List.set_cons_zero]; rfl) ?_)
            refine TL.valE rfl (Val.pickF rfl rfl hg3 rfl) (by simp only [St.put, List.set_cons_succ, List.set_cons_zero]; rfl) ?_
            refine TL.nil ?_
            show TC _ _ _ _ _ _
            refine TC.cond rfl (fun hb => absurd hb (by simp)) (fun hb => ?_)
            refine TC.skip ?_
            show TC _ _ _ _ _ _
            refine TC.seq ?_
            -- region 10
            refine TC.region ?_
            refine TL.valE rfl (Val.move 1 rfl rfl) (by simp only [St.put, List.set_cons_succ, List.set_cons_zero]; rfl) ?_
            refine TL.valE rfl (Val.assign 1 rfl rfl) (by simp only [St.put, List.set_cons_succ, List.set_cons_zero]; rfl) ?_
            refine TL.nil ?_
            show TC _ _ _ _ _ _
            refine TC.ret ?_
            exact ⟨.inr rfl, [_], [_], _, rfl, by decide, rfl, by simp [refV, refC, valC], rfl, resL (by simp_all [ctlFaults, elD, cellD])⟩
        · refine TC.skip ?_
          show TC _ _ _ _ _ _
          refine TC.seq ?_
          refine TC.seq ?_
          -- region 8
          refine TC.region ?_
          refine TL.valE rfl (by first | exact Val.field rfl rfl rfl | exact Val.fieldC rfl rfl rfl) (by simp only [St.put, List.set_cons_succ, List.set_cons_zero, List.getElem_toArray, List.getElem_cons_succ, List.getElem_cons_zero, Nat.zero_add, Nat.reduceAdd]; rfl) ?_
          refine TL.valE rfl (by first | exact Val.load rfl rfl rfl rfl rfl | exact Val.loadC rfl rfl rfl) (by simp only [St.put, List.set_cons_succ, List.set_cons_zero, valC]; rfl) ?_
          refine TL.valE rfl (Val.eql rfl rfl rfl) (by simp only [St.put, List.set_cons_succ, List.set_cons_zero]; rfl) ?_
          refine TL.valE rfl (Val.move 1 rfl rfl) (by simp only [St.put, List.set_cons_succ, List.set_cons_zero]; rfl) ?_
          refine TL.splitG 3 rfl (fun hg3 => ?_) (fun hg3 => ?_)
          · refine TL.guardE rfl rfl hg3 (by first | exact Val.field rfl rfl rfl | exact Val.fieldC rfl rfl rfl) (by simp only [St.put, List.set_cons_succ, List.set_cons_zero, List.getElem_toArray, List.getElem_cons_succ, List.getElem_cons_zero, Nat.zero_add, Nat.reduceAdd]; rfl) ?_
            refine TL.guardE rfl rfl hg3 (by first | exact Val.load rfl rfl rfl rfl rfl | exact Val.loadC rfl rfl rfl) (by simp only [St.put, List.set_cons_succ, List.set_cons_zero, valC]; rfl) ?_
            refine TL.guardE rfl rfl hg3 (Val.neq rfl rfl rfl) (by simp only [St.put, List.set_cons_succ, List.set_cons_zero]; rfl) ?_
            refine TL.valE rfl (Val.pickT rfl rfl hg3 rfl) (by simp only [St.put, List.set_cons_succ, List.set_cons_zero]; rfl) ?_
            refine TL.nil ?_
            show TC _ _ _ _ _ _
            refine TC.cond rfl (fun hb => ?_) (fun hb => ?_)
            · -- region 9
              refine TC.region ?_
              refine TL.valE rfl (Val.move 1 rfl rfl) (by simp only [St.put, List.set_cons_succ, List.set_cons_zero]; rfl) ?_
              refine TL.opK rfl fun K hK => ?_
              refine OpT.buildP rfl rfl (xs := [(Go.Operand.const (Go.Value.int Go.IntKind.i64 4))]) rfl rfl rfl rfl (sz := 1) rfl rfl rfl (by decide) (by decide) ?_ -- 39
              simp only [St.fresh, St.kill, St.setRoot, St.put, St.renew, TS.kill, TV.kill, C.kill, Rt.kill, boxC, List.map_cons, List.map_nil, List.filter_cons, List.filter_nil, List.set_cons_succ, List.set_cons_zero, List.contains_cons, List.contains_nil, Nat.reduceBEq, Nat.reduceBNe, St.wrote, hitR, hitP, shapeOf, List.isPrefixOf, List.append_eq, Bool.and_true, Bool.true_and, Bool.and_false, Bool.false_and, List.nil_append, List.cons_append, beq_self_eq_true, bne_self_eq_false, Bool.or_false, Bool.or_true, Bool.not_true, Bool.not_false, Bool.false_eq_true, if_true, if_false, reduceIte, resT, valsD, refsD, refD, nextD, nextsD, cellsD, isSl, List.append_nil]
              refine hK _ ?_
              clear hK K
              refine TL.opK rfl fun K hK => ?_
              refine OpT.appendE rfl rfl rfl (sz := 1) rfl rfl rfl (by simp [isPlain, D.row, elD, cellD]) rfl rfl rfl rfl rfl rfl rfl (by simp; try omega) ?_ -- 40
              simp only [St.fresh, St.kill, St.setRoot, St.put, St.renew, TS.kill, TV.kill, C.kill, Rt.kill, boxC, List.map_cons, List.map_nil, List.filter_cons, List.filter_nil, List.set_cons_succ, List.set_cons_zero, List.contains_cons, List.contains_nil, Nat.reduceBEq, Nat.reduceBNe, St.wrote, hitR, hitP, shapeOf, List.isPrefixOf, List.append_eq, Bool.and_true, Bool.true_and, Bool.and_false, Bool.false_and, List.nil_append, List.cons_append, beq_self_eq_true, bne_self_eq_false, Bool.or_false, Bool.or_true, Bool.not_true, Bool.not_false, Bool.false_eq_true, if_true, if_false, reduceIte, resT, valsD, refsD, refD, nextD, nextsD, cellsD, isSl, List.append_nil]
              refine hK _ ?_
              clear hK K
              refine TL.valE rfl (Val.assign 1 rfl rfl) (by simp only [St.put, List.set_cons_succ, List.set_cons_zero]; rfl) ?_
              refine TL.nil ?_
              show TC _ _ _ _ _ _
              refine TC.seq ?_
              -- region 10
              refine TC.region ?_
              refine TL.valE rfl (Val.move 1 rfl rfl) (by simp only [St.put, List.set_cons_succ, List.set_cons_zero]; rfl) ?_
              refine TL.valE rfl (Val.assign 1 rfl rfl) (by simp only [St.put, List.set_cons_succ, List.set_cons_zero]; rfl) ?_
              refine TL.nil ?_
              show TC _ _ _ _ _ _
              refine TC.ret ?_
              exact ⟨.inr rfl, [_], [_], _, rfl, by decide, rfl, by simp [refV, refC, valC], rfl, resL (by simp_all [ctlFaults, elD, cellD])⟩
            · refine TC.skip ?_
              show TC _ _ _ _ _ _
              refine TC.seq ?_
              -- region 10
              refine TC.region ?_
              refine TL.valE rfl (Val.move 1 rfl rfl) (by simp only [St.put, List.set_cons_succ, List.set_cons_zero]; rfl) ?_
              refine TL.valE rfl (Val.assign 1 rfl rfl) (by simp only [St.put, List.set_cons_succ, List.set_cons_zero]; rfl) ?_
              refine TL.nil ?_
              show TC _ _ _ _ _ _
              refine TC.ret ?_
              exact ⟨.inr rfl, [_], [_], _, rfl, by decide, rfl, by simp [refV, refC, valC], rfl, resL (by simp_all [ctlFaults, elD, cellD])⟩
          · iterate 3 (refine TL.skip (nope_b rfl rfl hg3) (by simp only [St.put, List.set_cons_succ, List.set_cons_zero]; rfl) ?_)
            refine TL.valE rfl (Val.pickF rfl rfl hg3 rfl) (by simp only [St.put, List.set_cons_succ, List.set_cons_zero]; rfl) ?_
            refine TL.nil ?_
            show TC _ _ _ _ _ _
            refine TC.cond rfl (fun hb => absurd hb (by simp)) (fun hb => ?_)
            refine TC.skip ?_
            show TC _ _ _ _ _ _
            refine TC.seq ?_
            -- region 10
            refine TC.region ?_
            refine TL.valE rfl (Val.move 1 rfl rfl) (by simp only [St.put, List.set_cons_succ, List.set_cons_zero]; rfl) ?_
            refine TL.valE rfl (Val.assign 1 rfl rfl) (by simp only [St.put, List.set_cons_succ, List.set_cons_zero]; rfl) ?_
            refine TL.nil ?_
            show TC _ _ _ _ _ _
            refine TC.ret ?_
            exact ⟨.inr rfl, [_], [_], _, rfl, by decide, rfl, by simp [refV, refC, valC], rfl, resL (by simp_all [ctlFaults, elD, cellD])⟩
      · iterate 3 (refine TL.skip (nope_b rfl rfl hg3) (by simp only [St.put, List.set_cons_succ, List.set_cons_zero]; rfl) ?_)
        refine TL.valE rfl (Val.pickF rfl rfl hg3 rfl) (by simp only [St.put, List.set_cons_succ, List.set_cons_zero]; rfl) ?_
        refine TL.nil ?_
        show TC _ _ _ _ _ _
        refine TC.cond rfl (fun hb => absurd hb (by simp)) (fun hb => ?_)
        refine TC.skip ?_
        show TC _ _ _ _ _ _
        refine TC.seq ?_
        refine TC.seq ?_
        -- region 8
        refine TC.region ?_
        refine TL.valE rfl (by first | exact Val.field rfl rfl rfl | exact Val.fieldC rfl rfl rfl) (by simp only [St.put, List.set_cons_succ, List.set_cons_zero, List.getElem_toArray, List.getElem_cons_succ, List.getElem_cons_zero, Nat.zero_add, Nat.reduceAdd]; rfl) ?_
        refine TL.valE rfl (by first | exact Val.load rfl rfl rfl rfl rfl | exact Val.loadC rfl rfl rfl) (by simp only [St.put, List.set_cons_succ, List.set_cons_zero, valC]; rfl) ?_
        refine TL.valE rfl (Val.eql rfl rfl rfl) (by simp only [St.put, List.set_cons_succ, List.set_cons_zero]; rfl) ?_
        refine TL.valE rfl (Val.move 1 rfl rfl) (by simp only [St.put, List.set_cons_succ, List.set_cons_zero]; rfl) ?_
        refine TL.splitG 3 rfl (fun hg3 => ?_) (fun hg3 => ?_)
        · refine TL.guardE rfl rfl hg3 (by first | exact Val.field rfl rfl rfl | exact Val.fieldC rfl rfl rfl) (by simp only [St.put, List.set_cons_succ, List.set_cons_zero, List.getElem_toArray, List.getElem_cons_succ, List.getElem_cons_zero, Nat.zero_add, Nat.reduceAdd]; rfl) ?_
          refine TL.guardE rfl rfl hg3 (by first | exact Val.load rfl rfl rfl rfl rfl | exact Val.loadC rfl rfl rfl) (by simp only [St.put, List.set_cons_succ, List.set_cons_zero, valC]; rfl) ?_
          refine TL.guardE rfl rfl hg3 (Val.neq rfl rfl rfl) (by simp only [St.put, List.set_cons_succ, List.set_cons_zero]; rfl) ?_
          refine TL.valE rfl (Val.pickT rfl rfl hg3 rfl) (by simp only [St.put, List.set_cons_succ, List.set_cons_zero]; rfl) ?_
          refine TL.nil ?_
          show TC _ _ _ _ _ _
          refine TC.cond rfl (fun hb => ?_) (fun hb => ?_)
          · -- region 9
            refine TC.region ?_
            refine TL.valE rfl (Val.move 1 rfl rfl) (by simp only [St.put, List.set_cons_succ, List.set_cons_zero]; rfl) ?_
            refine TL.opK rfl fun K hK => ?_
            refine OpT.buildP rfl rfl (xs := [(Go.Operand.const (Go.Value.int Go.IntKind.i64 4))]) rfl rfl rfl rfl (sz := 1) rfl rfl rfl (by decide) (by decide) ?_ -- 39
            simp only [St.fresh, St.kill, St.setRoot, St.put, St.renew, TS.kill, TV.kill, C.kill, Rt.kill, boxC, List.map_cons, List.map_nil, List.filter_cons, List.filter_nil, List.set_cons_succ, List.set_cons_zero, List.contains_cons, List.contains_nil, Nat.reduceBEq, Nat.reduceBNe, St.wrote, hitR, hitP, shapeOf, List.isPrefixOf, List.append_eq, Bool.and_true, Bool.true_and, Bool.and_false, Bool.false_and, List.nil_append, List.cons_append, beq_self_eq_true, bne_self_eq_false, Bool.or_false, Bool.or_true, Bool.not_true, Bool.not_false, Bool.false_eq_true, if_true, if_false, reduceIte, resT, valsD, refsD, refD, nextD, nextsD, cellsD, isSl, List.append_nil]
            refine hK _ ?_
            clear hK K
            refine TL.opK rfl fun K hK => ?_
            refine OpT.appendE rfl rfl rfl (sz := 1) rfl rfl rfl (by simp [isPlain, D.row, elD, cellD]) rfl rfl rfl rfl rfl rfl rfl (by simp; try omega) ?_ -- 40
            simp only [St.fresh, St.kill, St.setRoot, St.put, St.renew, TS.kill, TV.kill, C.kill, Rt.kill, boxC, List.map_cons, List.map_nil, List.filter_cons, List.filter_nil, List.set_cons_succ, List.set_cons_zero, List.contains_cons, List.contains_nil, Nat.reduceBEq, Nat.reduceBNe, St.wrote, hitR, hitP, shapeOf, List.isPrefixOf, List.append_eq, Bool.and_true, Bool.true_and, Bool.and_false, Bool.false_and, List.nil_append, List.cons_append, beq_self_eq_true, bne_self_eq_false, Bool.or_false, Bool.or_true, Bool.not_true, Bool.not_false, Bool.false_eq_true, if_true, if_false, reduceIte, resT, valsD, refsD, refD, nextD, nextsD, cellsD, isSl, List.append_nil]
            refine hK _ ?_
            clear hK K
            refine TL.valE rfl (Val.assign 1 rfl rfl) (by simp only [St.put, List.set_cons_succ, List.set_cons_zero]; rfl) ?_
            refine TL.nil ?_
            show TC _ _ _ _ _ _
            refine TC.seq ?_
            -- region 10
            refine TC.region ?_
            refine TL.valE rfl (Val.move 1 rfl rfl) (by simp only [St.put, List.set_cons_succ, List.set_cons_zero]; rfl) ?_
            refine TL.valE rfl (Val.assign 1 rfl rfl) (by simp only [St.put, List.set_cons_succ, List.set_cons_zero]; rfl) ?_
            refine TL.nil ?_
            show TC _ _ _ _ _ _
            refine TC.ret ?_
            exact ⟨.inr rfl, [_], [_], _, rfl, by decide, rfl, by simp [refV, refC, valC], rfl, resL (by simp_all [ctlFaults, elD, cellD])⟩
          · refine TC.skip ?_
            show TC _ _ _ _ _ _
            refine TC.seq ?_
            -- region 10
            refine TC.region ?_
            refine TL.valE rfl (Val.move 1 rfl rfl) (by simp only [St.put, List.set_cons_succ, List.set_cons_zero]; rfl) ?_
            refine TL.valE rfl (Val.assign 1 rfl rfl) (by simp only [St.put, List.set_cons_succ, List.set_cons_zero]; rfl) ?_
            refine TL.nil ?_
            show TC _ _ _ _ _ _
            refine TC.ret ?_
            exact ⟨.inr rfl, [_], [_], _, rfl, by decide, rfl, by simp [refV, refC, valC], rfl, resL (by simp_all [ctlFaults, elD, cellD])⟩
        · iterate 3 (refine TL.skip (nope_b rfl rfl hg3) (by simp only [St.put, List.set_cons_succ, List.set_cons_zero]; rfl) ?_)
          refine TL.valE rfl (Val.pickF rfl rfl hg3 rfl) (by simp only [St.put, List.set_cons_succ, List.set_cons_zero]; rfl) ?_
          refine TL.nil ?_
          show TC _ _ _ _ _ _
          refine TC.cond rfl (fun hb => absurd hb (by simp)) (fun hb => ?_)
          refine TC.skip ?_
          show TC _ _ _ _ _ _
          refine TC.seq ?_
          -- region 10
          refine TC.region ?_
          refine TL.valE rfl (Val.move 1 rfl rfl) (by simp only [St.put, List.set_cons_succ, List.set_cons_zero]; rfl) ?_
          refine TL.valE rfl (Val.assign 1 rfl rfl) (by simp only [St.put, List.set_cons_succ, List.set_cons_zero]; rfl) ?_
          refine TL.nil ?_
          show TC _ _ _ _ _ _
          refine TC.ret ?_
          exact ⟨.inr rfl, [_], [_], _, rfl, by decide, rfl, by simp [refV, refC, valC], rfl, resL (by simp_all [ctlFaults, elD, cellD])⟩
  · refine TC.skip ?_
    show TC _ _ _ _ _ _
    refine TC.seq ?_
    refine TC.seq ?_
    -- region 4
    refine TC.region ?_
    refine TL.valE rfl (by first | exact Val.field rfl rfl rfl | exact Val.fieldC rfl rfl rfl) (by simp only [St.put, List.set_cons_succ, List.set_cons_zero, List.getElem_toArray, List.getElem_cons_succ, List.getElem_cons_zero, Nat.zero_add, Nat.reduceAdd]; rfl) ?_
    refine TL.valE rfl (by first | exact Val.load rfl rfl rfl rfl rfl | exact Val.loadC rfl rfl rfl) (by simp only [St.put, List.set_cons_succ, List.set_cons_zero, valC]; rfl) ?_
    refine TL.callF (yes_none rfl) rfl rfl rfl rfl rfl rfl (impl_within_f _ _ _) (by repeat first | exact .nil | refine Snaps.cons (.ro _) ?_ | refine Snaps.cons (.aggRo rfl) ?_ | refine Snaps.cons (.cptr _) ?_ | refine Snaps.cons (.fn _) ?_ | refine Snaps.cons (.ownRef rfl (by first | assumption | exact w_IntS _ | exact w_IntSS _ | exact w_InsS _ | exact w_SlotS _ | exact w_GuestS _ | exact w_BareS _)) ?_ | refine Snaps.cons (.aggR (by repeat first | exact .nil | refine SnapCs.cons (.ro _) ?_ | refine SnapCs.cons (.ref rfl (by first | assumption | exact w_IntS _ | exact w_IntSS _ | exact w_InsS _ | exact w_SlotS _ | exact w_GuestS _ | exact w_BareS _)) ?_)) ?_) rfl (by simp only [St.put, List.set_cons_succ, List.set_cons_zero]; rfl) ?_
    refine TL.valE rfl (Val.not rfl rfl) (by simp only [St.put, List.set_cons_succ, List.set_cons_zero]; rfl) ?_
    refine TL.nil ?_
    show TC _ _ _ _ _ _
    refine TC.cond rfl (fun hb => ?_) (fun hb => ?_)
    · -- region 5
      refine TC.region ?_
      refine TL.valE rfl (Val.move 1 rfl rfl) (by simp only [St.put, List.set_cons_succ, List.set_cons_zero]; rfl) ?_
      refine TL.opK rfl fun K hK => ?_
      refine OpT.buildP rfl rfl (xs := [(Go.Operand.const (Go.Value.int Go.IntKind.i64 2))]) rfl rfl rfl rfl (sz := 1) rfl rfl rfl (by decide) (by decide) ?_ -- 17
      simp only [St.fresh, St.kill, St.setRoot, St.put, St.renew, TS.kill, TV.kill, C.kill, Rt.kill, boxC, List.map_cons, List.map_nil, List.filter_cons, List.filter_nil, List.set_cons_succ, List.set_cons_zero, List.contains_cons, List.contains_nil, Nat.reduceBEq, Nat.reduceBNe, St.wrote, hitR, hitP, shapeOf, List.isPrefixOf, List.append_eq, Bool.and_true, Bool.true_and, Bool.and_false, Bool.false_and, List.nil_append, List.cons_append, beq_self_eq_true, bne_self_eq_false, Bool.or_false, Bool.or_true, Bool.not_true, Bool.not_false, Bool.false_eq_true, if_true, if_false, reduceIte, resT, valsD, refsD, refD, nextD, nextsD, cellsD, isSl, List.append_nil]
      refine hK _ ?_
      clear hK K
      refine TL.opK rfl fun K hK => ?_
      refine OpT.appendE rfl rfl rfl (sz := 1) rfl rfl rfl (by simp [isPlain, D.row, elD, cellD]) rfl rfl rfl rfl rfl rfl rfl (by simp; try omega) ?_ -- 18
      simp only [St.fresh, St.kill, St.setRoot, St.put, St.renew, TS.kill, TV.kill, C.kill, Rt.kill, boxC, List.map_cons, List.map_nil, List.filter_cons, List.filter_nil, List.set_cons_succ, List.set_cons_zero, List.contains_cons, List.contains_nil, Nat.reduceBEq, Nat.reduceBNe, St.wrote, hitR, hitP, shapeOf, List.isPrefixOf, List.append_eq, Bool.and_true, Bool.true_and, Bool.and_false, Bool.false_and, List.nil_append, List.cons_append, beq_self_eq_true, bne_self_eq_false, Bool.or_false, Bool.or_true, Bool.not_true, Bool.not_false, Bool.false_eq_true, if_true, if_false, reduceIte, resT, valsD, refsD, refD, nextD, nextsD, cellsD, isSl, List.append_nil]
      refine hK _ ?_
      clear hK K
      refine TL.valE rfl (Val.assign 1 rfl rfl) (by simp only [St.put, List.set_cons_succ, List.set_cons_zero]; rfl) ?_
      refine TL.nil ?_
      show TC _ _ _ _ _ _
      refine TC.seq ?_
      refine TC.seq ?_
      -- region 6
      refine TC.region ?_
      refine TL.valE rfl (by first | exact Val.field rfl rfl rfl | exact Val.fieldC rfl rfl rfl) (by simp only [St.put, List.set_cons_succ, List.set_cons_zero, List.getElem_toArray, List.getElem_cons_succ, List.getElem_cons_zero, Nat.zero_add, Nat.reduceAdd]; rfl) ?_
      refine TL.valE rfl (by first | exact Val.load rfl rfl rfl rfl rfl | exact Val.loadC rfl rfl rfl) (by simp only [St.put, List.set_cons_succ, List.set_cons_zero, valC]; rfl) ?_
      refine TL.valE rfl (Val.neq rfl rfl rfl) (by simp only [St.put, List.set_cons_succ, List.set_cons_zero]; rfl) ?_
      refine TL.valE rfl (Val.move 1 rfl rfl) (by simp only [St.put, List.set_cons_succ, List.set_cons_zero]; rfl) ?_
      refine TL.splitG 3 rfl (fun hg3 => ?_) (fun hg3 => ?_)
      · refine TL.guardE rfl rfl hg3 (by first | exact Val.field rfl rfl rfl | exact Val.fieldC rfl rfl rfl) (by simp only [St.put, List.set_cons_succ, List.set_cons_zero, List.getElem_toArray, List.getElem_cons_succ, List.getElem_cons_zero, Nat.zero_add, Nat.reduceAdd]; rfl) ?_
        refine TL.guardE rfl rfl hg3 (by first | exact Val.load rfl rfl rfl rfl rfl | exact Val.loadC rfl rfl rfl) (by simp only [St.put, List.set_cons_succ, List.set_cons_zero, valC]; rfl) ?_
        refine TL.guardE rfl rfl hg3 (Val.not rfl rfl) (by simp only [St.put, List.set_cons_succ, List.set_cons_zero]; rfl) ?_
        refine TL.valE rfl (Val.pickT rfl rfl hg3 rfl) (by simp only [St.put, List.set_cons_succ, List.set_cons_zero]; rfl) ?_
        refine TL.nil ?_
        show TC _ _ _ _ _ _
        refine TC.cond rfl (fun hb => ?_) (fun hb => ?_)
        · -- region 7
          refine TC.region ?_
          refine TL.valE rfl (Val.move 1 rfl rfl) (by simp only [St.put, List.set_cons_succ, List.set_cons_zero]; rfl) ?_
          refine TL.opK rfl fun K hK => ?_
          refine OpT.buildP rfl rfl (xs := [(Go.Operand.const (Go.Value.int Go.IntKind.i64 3))]) rfl rfl rfl rfl (sz := 1) rfl rfl rfl (by decide) (by decide) ?_ -- 28
          simp only [St.fresh, St.kill, St.setRoot, St.put, St.renew, TS.kill, TV.kill, C.kill, Rt.kill, boxC, List.map_cons, List.map_nil, List.filter_cons, List.filter_nil, List.set_cons_succ, List.set_cons_zero, List.contains_cons, List.contains_nil, Nat.reduceBEq, Nat.reduceBNe, St.wrote, hitR, hitP, shapeOf, List.isPrefixOf, List.append_eq, Bool.and_true, Bool.true_and, Bool.and_false, Bool.false_and, List.nil_append, List.cons_append, beq_self_eq_true, bne_self_eq_false, Bool.or_false, Bool.or_true, Bool.not_true, Bool.not_false, Bool.false_eq_true, if_true, if_false, reduceIte, resT, valsD, refsD, refD, nextD, nextsD, cellsD, isSl, List.append_nil]
          refine hK _ ?_
          clear hK K
          refine TL.opK rfl fun K hK => ?_
          refine OpT.appendE rfl rfl rfl (sz := 1) rfl rfl rfl (by simp [isPlain, D.row, elD, cellD]) rfl rfl rfl rfl rfl rfl rfl (by simp; try omega) ?_ -- 29
          simp only [St.fresh, St.kill, St.setRoot, St.put, St.renew, TS.kill, TV.kill, C.kill, Rt.kill, boxC, List.map_cons, List.map_nil, List.filter_cons, List.filter_nil, List.set_cons_succ, List.set_cons_zero, List.contains_cons, List.contains_nil, Nat.reduceBEq, Nat.reduceBNe, St.wrote, hitR, hitP, shapeOf, List.isPrefixOf, List.append_eq, Bool.and_true, Bool.true_and, Bool.and_false, Bool.false_and, List.nil_append, List.cons_append, beq_self_eq_true, bne_self_eq_false, Bool.or_false, Bool.or_true, Bool.not_true, Bool.not_false, Bool.false_eq_true, if_true, if_false, reduceIte, resT, valsD, refsD, refD, nextD, nextsD, cellsD, isSl, List.append_nil]
          refine hK _ ?_
          clear hK K
          refine TL.valE rfl (Val.assign 1 rfl rfl) (by simp only [St.put, List.set_cons_succ, List.set_cons_zero]; rfl) ?_
          refine TL.nil ?_
          show TC _ _ _ _ _ _
          refine TC.seq ?_
          refine TC.seq ?_
          -- region 8
          refine TC.region ?_
          refine TL.valE rfl (by first | exact Val.field rfl rfl rfl | exact Val.fieldC rfl rfl rfl) (by simp only [St.put, List.set_cons_succ, List.set_cons_zero, List.getElem_toArray, List.getElem_cons_succ, List.getElem_cons_zero, Nat.zero_add, Nat.reduceAdd]; rfl) ?_
          refine TL.valE rfl (by first | exact Val.load rfl rfl rfl rfl rfl | exact Val.loadC rfl rfl rfl) (by simp only [St.put, List.set_cons_succ, List.set_cons_zero, valC]; rfl) ?_
          refine TL.valE rfl (Val.eql rfl rfl rfl) (by simp only [St.put, List.set_cons_succ, List.set_cons_zero]; rfl) ?_
          refine TL.valE rfl (Val.move 1 rfl rfl) (by simp only [St.put, List.set_cons_succ, List.set_cons_zero]; rfl) ?_
          refine TL.splitG 3 rfl (fun hg3 => ?_) (fun hg3 => ?_)
          · refine TL.guardE rfl rfl hg3 (by first | exact Val.field rfl rfl rfl | exact Val.fieldC rfl rfl rfl) (by simp only [St.put, List.set_cons_succ, List.set_cons_zero, List.getElem_toArray, List.getElem_cons_succ, List.getElem_cons_zero, Nat.zero_add, Nat.reduceAdd]; rfl) ?_
            refine TL.guardE rfl rfl hg3 (by first | exact Val.load rfl rfl rfl rfl rfl | exact Val.loadC rfl rfl rfl) (by simp only [St.put, List.set_cons_succ, List.set_cons_zero, valC]; rfl) ?_
            refine TL.guardE rfl rfl hg3 (Val.neq rfl rfl rfl) (by simp only [St.put, List.set_cons_succ, List.set_cons_zero]; rfl) ?_
            refine TL.valE rfl (Val.pickT rfl rfl hg3 rfl) (by simp only [St.put, List.set_cons_succ, List.set_cons_zero]; rfl) ?_
            refine TL.nil ?_
            show TC _ _ _ _ _ _
            refine TC.cond rfl (fun hb => ?_) (fun hb => ?_)
            · -- region 9
              refine TC.region ?_
              refine TL.valE rfl (Val.move 1 rfl rfl) (by simp only [St.put, List.set_cons_succ, List.set_cons_zero]; rfl) ?_
              refine TL.opK rfl fun K hK => ?_
              refine OpT.buildP rfl rfl (xs := [(Go.Operand.const (Go.Value.int Go.IntKind.i64 4))]) rfl rfl rfl rfl (sz := 1) rfl rfl rfl (by decide) (by decide) ?_ -- 39
              simp only [St.fresh, St.kill, St.setRoot, St.put, St.renew, TS.kill, TV.kill, C.kill, Rt.kill, boxC, List.map_cons, List.map_nil, List.filter_cons, List.filter_nil, List.set_cons_succ, List.set_cons_zero, List.contains_cons, List.contains_nil, Nat.reduceBEq, Nat.reduceBNe, St.wrote, hitR, hitP, shapeOf, List.isPrefixOf, List.append_eq, Bool.and_true, Bool.true_and, Bool.and_false, Bool.false_and, List.nil_append, List.cons_append, beq_self_eq_true, bne_self_eq_false, Bool.or_false, Bool.or_true, Bool.not_true, Bool.not_false, Bool.false_eq_true, if_true, if_false, reduceIte, resT, valsD, refsD, refD, nextD, nextsD, cellsD, isSl, List.append_nil]
              refine hK _ ?_
              clear hK K
              refine TL.opK rfl fun K hK => ?_
              refine OpT.appendE rfl rfl rfl (sz := 1) rfl rfl rfl (by simp [isPlain, D.row, elD, cellD]) rfl rfl rfl rfl rfl rfl rfl (by simp; try omega) ?_ -- 40
              simp only [St.fresh, St.kill, St.setRoot, St.put, St.renew, TS.kill, TV.kill, C.kill, Rt.kill, boxC, List.map_cons, List.map_nil, List.filter_cons, List.filter_nil, List.set_cons_succ, List.set_cons_zero, List.contains_cons, List.contains_nil, Nat.reduceBEq, Nat.reduceBNe, St.wrote, hitR, hitP, shapeOf, List.isPrefixOf, List.append_eq, Bool.and_true, Bool.true_and, Bool.and_false, Bool.false_and, List.nil_append, List.cons_append, beq_self_eq_true, bne_self_eq_false, Bool.or_false, Bool.or_true, Bool.not_true, Bool.not_false, Bool.false_eq_true, if_true, if_false, reduceIte, resT, valsD, refsD, refD, nextD, nextsD, cellsD, isSl, List.append_nil]
              refine hK _ ?_
              clear hK K
              refine TL.valE rfl (Val.assign 1 rfl rfl) (by simp only [St.put, List.set_cons_succ, List.set_cons_zero]; rfl) ?_
              refine TL.nil ?_
              show TC _ _ _ _ _ _
              refine TC.seq ?_
              -- region 10
              refine TC.region ?_
              refine TL.valE rfl (Val.move 1 rfl rfl) (by simp only [St.put, List.set_cons_succ, List.set_cons_zero]; rfl) ?_
              refine TL.valE rfl (Val.assign 1 rfl rfl) (by simp only [St.put, List.set_cons_succ, List.set_cons_zero]; rfl) ?_
              refine TL.nil ?_
              show TC _ _ _ _ _ _
              refine TC.ret ?_
              exact ⟨.inr rfl, [_], [_], _, rfl, by decide, rfl, by simp [refV, refC, valC], rfl, resL (by simp_all [ctlFaults, elD, cellD])⟩
            · refine TC.skip ?_
              show TC _ _ _ _ _ _
              refine TC.seq ?_
              -- region 10
              refine TC.region ?_
              refine TL.valE rfl (Val.move 1 rfl rfl) (by simp only [St.put, List.set_cons_succ, List.set_cons_zero]; rfl) ?_
              refine TL.valE rfl (Val.assign 1 rfl rfl) (by simp only [St.put, List.set_cons_succ, List.set_cons_zero]; rfl) ?_
              refine TL.nil ?_
              show TC _ _ _ _ _ _
              refine TC.ret ?_
              exact ⟨.inr rfl, [_], [_], _, rfl, by decide, rfl, by simp [refV, refC, valC], rfl, resL (by simp_all [ctlFaults, elD, cellD])⟩
          · iterate 3 (refine TL.skip (nope_b rfl rfl hg3) (by simp only [St.put, List.set_cons_succ, List.set_cons_zero]; rfl) ?_)
            refine TL.valE rfl (Val.pickF rfl rfl hg3 rfl) (by simp only [St.put, List.set_cons_succ, List.set_cons_zero]; rfl) ?_
            refine TL.nil ?_
            show TC _ _ _ _ _ _
            refine TC.cond rfl (fun hb => absurd hb (by simp)) (fun hb => ?_)
            refine TC.skip ?_
            show TC _ _ _ _ _ _
            refine TC.seq ?_
            -- region 10
            refine TC.region ?_
            refine TL.valE rfl (Val.move 1 rfl rfl) (by simp only [St.put, List.set_cons_succ, List.set_cons_zero]; rfl) ?_
            refine TL.valE rfl (Val.assign 1 rfl rfl) (by simp only [St.put, List.set_cons_succ, List.set_cons_zero]; rfl) ?_
            refine TL.nil ?_
            show TC _ _ _ _ _ _
            refine TC.ret ?_
            exact ⟨.inr rfl, [_], [_], _, rfl, by decide, rfl, by simp [refV, refC, valC], rfl, resL (by simp_all [ctlFaults, elD, cellD])⟩
        · refine TC.skip ?_
          show TC _ _ _ _ _ _
          refine TC.seq ?_
          refine TC.seq ?_
          -- region 8
          refine TC.region ?_
          refine TL.valE rfl (by first | exact Val.field rfl rfl rfl | exact Val.fieldC rfl rfl rfl) (by simp only [St.put, List.set_cons_succ, List.set_cons_zero, List.getElem_toArray, List.getElem_cons_succ, List.getElem_cons_zero, Nat.zero_add, Nat.reduceAdd]; rfl) ?_
          refine TL.valE rfl (by first | exact Val.load rfl rfl rfl rfl rfl | exact Val.loadC rfl rfl rfl) (by simp only [St.put, List.set_cons_succ, List.set_cons_zero, valC]; rfl) ?_
          refine TL.valE rfl (Val.eql rfl rfl rfl) (by simp only [St.put, List.set_cons_succ, List.set_cons_zero]; rfl) ?_
          refine TL.valE rfl (Val.move 1 rfl rfl) (by simp only [St.put, List.set_cons_succ, List.set_cons_zero]; rfl) ?_
          refine TL.splitG 3 rfl (fun hg3 => ?_) (fun hg3 => ?_)
          · refine TL.guardE rfl rfl hg3 (by first | exact Val.field rfl rfl rfl | exact Val.fieldC rfl rfl rfl) (by simp only [St.put, List.set_cons_succ, List.set_cons_zero, List.getElem_toArray, List.getElem_cons_succ, List.getElem_cons_zero, Nat.zero_add, Nat.reduceAdd]; rfl) ?_
            refine TL.guardE rfl rfl hg3 (by first | exact Val.load rfl rfl rfl rfl rfl | exact Val.loadC rfl rfl rfl) (by simp only [St.put, List.set_cons_succ, List.set_cons_zero, valC]; rfl) ?_
            refine TL.guardE rfl rfl hg3 (Val.neq rfl rfl rfl) (by simp only [St.put, List.set_cons_succ, List.set_cons_zero]; rfl) ?_
            refine TL.valE rfl (Val.pickT rfl rfl hg3 rfl) (by simp only [St.put, List.set_cons_succ, List.set_cons_zero]; rfl) ?_
            refine TL.nil ?_
            show TC _ _ _ _ _ _
            refine TC.cond rfl (fun hb => ?_) (fun hb => ?_)
            · -- region 9
              refine TC.region ?_
              refine TL.valE rfl (Val.move 1 rfl rfl) (by simp only [St.put, List.set_cons_succ, List.set_cons_zero]; rfl) ?_
              refine TL.opK rfl fun K hK => ?_
              refine OpT.buildP rfl rfl (xs := [(Go.Operand.const (Go.Value.int Go.IntKind.i64 4))]) rfl rfl rfl rfl (sz := 1) rfl rfl rfl (by decide) (by decide) ?_ -- 39
              simp only [St.fresh, St.kill, St.setRoot, St.put, St.renew, TS.kill, TV.kill, C.kill, Rt.kill, boxC, List.map_cons, List.map_nil, List.filter_cons, List.filter_nil, List.set_cons_succ, List.set_cons_zero, List.contains_cons, List.contains_nil, Nat.reduceBEq, Nat.reduceBNe, St.wrote, hitR, hitP, shapeOf, List.isPrefixOf, List.append_eq, Bool.and_true, Bool.true_and, Bool.and_false, Bool.false_and, List.nil_append, List.cons_append, beq_self_eq_true, bne_self_eq_false, Bool.or_false, Bool.or_true, Bool.not_true, Bool.not_false, Bool.false_eq_true, if_true, if_false, reduceIte, resT, valsD, refsD, refD, nextD, nextsD, cellsD, isSl, List.append_nil]
              refine hK _ ?_
              clear hK K
              refine TL.opK rfl fun K hK => ?_
              refine OpT.appendE rfl rfl rfl (sz := 1) rfl rfl rfl (by simp [isPlain, D.row, elD, cellD]) rfl rfl rfl rfl rfl rfl rfl (by simp; try omega) ?_ -- 40
              simp only [St.fresh, St.kill, St.setRoot, St.put, St.renew, TS.kill, TV.kill, C.kill, Rt.kill, boxC, List.map_cons, List.map_nil, List.filter_cons, List.filter_nil, List.set_cons_succ, List.set_cons_zero, List.contains_cons, List.contains_nil, Nat.reduceBEq, Nat.reduceBNe, St.wrote, hitR, hitP, shapeOf, List.isPrefixOf, List.append_eq, Bool.and_true, Bool.true_and, Bool.and_false, Bool.false_and, List.nil_append, List.cons_append, beq_self_eq_true, bne_self_eq_false, Bool.or_false, Bool.or_true, Bool.not_true, Bool.not_false, Bool.false_eq_true, if_true, if_false, reduceIte, resT, valsD, refsD, refD, nextD, nextsD, cellsD, isSl, List.append_nil]
              refine hK _ ?_
              clear hK K
              refine TL.valE rfl (Val.assign 1 rfl rfl) (by simp only [St.put, List.set_cons_succ, List.set_cons_zero]; rfl) ?_
              refine TL.nil ?_
              show TC _ _ _ _ _ _
              refine TC.seq ?_
              -- region 10
              refine TC.region ?_
              refine TL.valE rfl (Val.move 1 rfl rfl) (by simp only [St.put, List.set_cons_succ, List.set_cons_zero]; rfl) ?_
              refine TL.valE rfl (Val.assign 1 rfl rfl) (by simp only [St.put, List.set_cons_succ, List.set_cons_zero]; rfl) ?_
              refine TL.nil ?_
              show TC _ _ _ _ _ _
              refine TC.ret ?_
              exact ⟨.inr rfl, [_], [_], _, rfl, by decide, rfl, by simp [refV, refC, valC], rfl, resL (by simp_all [ctlFaults, elD, cellD])⟩
            · refine TC.skip ?_
              show TC _ _ _ _ _ _
              refine TC.seq ?_
              -- region 10
              refine TC.region ?_
              refine TL.valE rfl (Val.move 1 rfl rfl) (by simp only [St.put, List.set_cons_succ, List.set_cons_zero]; rfl) ?_
              refine TL.valE rfl (Val.assign 1 rfl rfl) (by simp only [St.put, List.set_cons_succ, List.set_cons_zero]; rfl) ?_
              refine TL.nil ?_
              show TC _ _ _ _ _ _
              refine TC.ret ?_
              exact ⟨.inr rfl, [_], [_], _, rfl, by decide, rfl, by simp [refV, refC, valC], rfl, resL (by simp_all [ctlFaults, elD, cellD])⟩
          · iterate 3 (refine TL.skip (nope_b rfl rfl hg3) (by simp only [St.put, List.set_cons_succ, List.set_cons_zero]; rfl) ?_)
            refine TL.valE rfl (Val.pickF rfl rfl hg3 rfl) (by simp only [St.put, List.set_cons_succ, List.set_cons_zero]; rfl) ?_
            refine TL.nil ?_
            show TC _ _ _ _ _ _
            refine TC.cond rfl (fun hb => absurd hb (by simp)) (fun hb => ?_)
            refine TC.skip ?_
            show TC _ _ _ _ _ _
            refine TC.seq ?_
            -- region 10
            refine TC.region ?_
            refine TL.valE rfl (Val.move 1 rfl rfl) (by simp only [St.put, List.set_cons_succ, List.set_cons_zero]; rfl) ?_
            refine TL.valE rfl (Val.assign 1 rfl rfl) (by simp only [St.put, List.set_cons_succ, List.set_cons_zero]; rfl) ?_
            refine TL.nil ?_
            show TC _ _ _ _ _ _
            refine TC.ret ?_
            exact ⟨.inr rfl, [_], [_], _, rfl, by decide, rfl, by simp [refV, refC, valC], rfl, resL (by simp_all [ctlFaults, elD, cellD])⟩
      · iterate 3 (refine TL.skip (nope_b rfl rfl hg3) (by simp only [St.put, List.set_cons_succ, List.set_cons_zero]; rfl) ?_)
        refine TL.valE rfl (Val.pickF rfl rfl hg3 rfl) (by simp only [St.put, List.set_cons_succ, List.set_cons_zero]; rfl) ?_
        refine TL.nil ?_
        show TC _ _ _ _ _ _
        refine TC.cond rfl (fun hb => absurd hb (by simp)) (fun hb => ?_)
        refine TC.skip ?_
        show TC _ _ _ _ _ _
        refine TC.seq ?_
        refine TC.seq ?_
        -- region 8
        refine TC.region ?_
        refine TL.valE rfl (by first | exact Val.field rfl rfl rfl | exact Val.fieldC rfl rfl rfl) (by simp only [St.put, List.set_cons_succ, List.set_cons_zero, List.getElem_toArray, List.getElem_cons_succ, List.getElem_cons_zero, Nat.zero_add, Nat.reduceAdd]; rfl) ?_
        refine TL.valE rfl (by first | exact Val.load rfl rfl rfl rfl rfl | exact Val.loadC rfl rfl rfl) (by simp only [St.put, List.set_cons_succ, List.set_cons_zero, valC]; rfl) ?_
        refine TL.valE rfl (Val.eql rfl rfl rfl) (by simp only [St.put, List.set_cons_succ, List.set_cons_zero]; rfl) ?_
        refine TL.valE rfl (Val.move 1 rfl rfl) (by simp only [St.put, List.set_cons_succ, List.set_cons_zero]; rfl) ?_
        refine TL.splitG 3 rfl (fun hg3 => ?_) (fun hg3 => ?_)
        · refine TL.guardE rfl rfl hg3 (by first | exact Val.field rfl rfl rfl | exact Val.fieldC rfl rfl rfl) (by simp only [St.put, List.set_cons_succ, List.set_cons_zero, List.getElem_toArray, List.getElem_cons_succ, List.getElem_cons_zero, Nat.zero_add, Nat.reduceAdd]; rfl) ?_
          refine TL.guardE rfl rfl hg3 (by first | exact Val.load rfl rfl rfl rfl rfl | exact Val.loadC rfl rfl rfl) (by simp only [St.put, List.set_cons_succ, List.set_cons_zero, valC]; rfl) ?_
          refine TL.guardE rfl rfl hg3 (Val.neq rfl rfl rfl) (by simp only [St.put, List.set_cons_succ, List.set_cons_zero]; rfl) ?_
          refine TL.valE rfl (Val.pickT rfl rfl hg3 rfl) (by simp only [St.put, List.set_cons_succ, List.set_cons_zero]; rfl) ?_
          refine TL.nil ?_
          show TC _ _ _ _ _ _
          refine TC.cond rfl (fun hb => ?_) (fun hb => ?_)
          · -- region 9
            refine TC.region ?_
            refine TL.valE rfl (Val.move 1 rfl rfl) (by simp only [St.put, List.set_cons_succ, List.set_cons_zero]; rfl) ?_
            refine TL.opK rfl fun K hK => ?_
            refine OpT.buildP rfl rfl (xs := [(Go.Operand.const (Go.Value.int Go.IntKind.i64 4))]) rfl rfl rfl rfl (sz := 1) rfl rfl rfl (by decide) (by decide) ?_ -- 39
            simp only [St.fresh, St.kill, St.setRoot, St.put, St.renew, TS.kill, TV.kill, C.kill, Rt.kill, boxC, List.map_cons, List.map_nil, List.filter_cons, List.filter_nil, List.set_cons_succ, List.set_cons_zero, List.contains_cons, List.contains_nil, Nat.reduceBEq, Nat.reduceBNe, St.wrote, hitR, hitP, shapeOf, List.isPrefixOf, List.append_eq, Bool.and_true, Bool.true_and, Bool.and_false, Bool.false_and, List.nil_append, List.cons_append, beq_self_eq_true, bne_self_eq_false, Bool.or_false, Bool.or_true, Bool.not_true, Bool.not_false, Bool.false_eq_true, if_true, if_false, reduceIte, resT, valsD, refsD, refD, nextD, nextsD, cellsD, isSl, List.append_nil]
            refine hK _ ?_
            clear hK K
            refine TL.opK rfl fun K hK => ?_
            refine OpT.appendE rfl rfl rfl (sz := 1) rfl rfl rfl (by simp [isPlain, D.row, elD, cellD]) rfl rfl rfl rfl rfl rfl rfl (by simp; try omega) ?_ -- 40
            simp only [St.fresh, St.kill, St.setRoot, St.put, St.renew, TS.kill, TV.kill, C.kill, Rt.kill, boxC, List.map_cons, List.map_nil, List.filter_cons, List.filter_nil, List.set_cons_succ, List.set_cons_zero, List.contains_cons, List.contains_nil, Nat.reduceBEq, Nat.reduceBNe, St.wrote, hitR, hitP, shapeOf, List.isPrefixOf, List.append_eq, Bool.and_true, Bool.true_and, Bool.and_false, Bool.false_and, List.nil_append, List.cons_append, beq_self_eq_true, bne_self_eq_false, Bool.or_false, Bool.or_true, Bool.not_true, Bool.not_false, Bool.false_eq_true, if_true, if_false, reduceIte, resT, valsD, refsD, refD, nextD, nextsD, cellsD, isSl, List.append_nil]
            refine hK _ ?_
            clear hK K
            refine TL.valE rfl (Val.assign 1 rfl rfl) (by simp only [St.put, List.set_cons_succ, List.set_cons_zero]; rfl) ?_
            refine TL.nil ?_
            show TC _ _ _ _ _ _
            refine TC.seq ?_
            -- region 10
            refine TC.region ?_
            refine TL.valE rfl (Val.move 1 rfl rfl) (by simp only [St.put, List.set_cons_succ, List.set_cons_zero]; rfl) ?_
            refine TL.valE rfl (Val.assign 1 rfl rfl) (by simp only [St.put, List.set_cons_succ, List.set_cons_zero]; rfl) ?_
            refine TL.nil ?_
            show TC _ _ _ _ _ _
            refine TC.ret ?_
            exact ⟨.inr rfl, [_], [_], _, rfl, by decide, rfl, by simp [refV, refC, valC], rfl, resL (by simp_all [ctlFaults, elD, cellD])⟩
          · refine TC.skip ?_
            show TC _ _ _ _ _ _
            refine TC.seq ?_
            -- region 10
            refine TC.region ?_
            refine TL.valE rfl (Val.move 1 rfl rfl) (by simp only [St.put, List.set_cons_succ, List.set_cons_zero]; rfl) ?_
            refine TL.valE rfl (Val.assign 1 rfl rfl) (by simp only [St.put, List.set_cons_succ, List.set_cons_zero]; rfl) ?_
            refine TL.nil ?_
            show TC _ _ _ _ _ _
            refine TC.ret ?_
            exact ⟨.inr rfl, [_], [_], _, rfl, by decide, rfl, by simp [refV, refC, valC], rfl, resL (by simp_all [ctlFaults, elD, cellD])⟩
        · iterate 3 (refine TL.skip (nope_b rfl rfl hg3) (by simp only [St.put, List.set_cons_succ, List.set_cons_zero]; rfl) ?_)
          refine TL.valE rfl (Val.pickF rfl rfl hg3 rfl) (by simp only [St.put, List.set_cons_succ, List.set_cons_zero]; rfl) ?_
          refine TL.nil ?_
          show TC _ _ _ _ _ _
          refine TC.cond rfl (fun hb => absurd hb (by simp)) (fun hb => ?_)
          refine TC.skip ?_
          show TC _ _ _ _ _ _
          refine TC.seq ?_
          -- region 10
          refine TC.region ?_
          refine TL.valE rfl (Val.move 1 rfl rfl) (by simp only [St.put, List.set_cons_succ, List.set_cons_zero]; rfl) ?_
          refine TL.valE rfl (Val.assign 1 rfl rfl) (by simp only [St.put, List.set_cons_succ, List.set_cons_zero]; rfl) ?_
          refine TL.nil ?_
          show TC _ _ _ _ _ _
          refine TC.ret ?_
          exact ⟨.inr rfl, [_], [_], _, rfl, by decide, rfl, by simp [refV, refC, valC], rfl, resL (by simp_all [ctlFaults, elD, cellD])⟩
    · refine TC.skip ?_
      show TC _ _ _ _ _ _
      refine TC.seq ?_
      refine TC.seq ?_
      -- region 6
      refine TC.region ?_
      refine TL.valE rfl (by first | exact Val.field rfl rfl rfl | exact Val.fieldC rfl rfl rfl) (by simp only [St.put, List.set_cons_succ, List.set_cons_zero, List.getElem_toArray, List.getElem_cons_succ, List.getElem_cons_zero, Nat.zero_add, Nat.reduceAdd]; rfl) ?_
      refine TL.valE rfl (by first | exact Val.load rfl rfl rfl rfl rfl | exact Val.loadC rfl rfl rfl) (by simp only [St.put, List.set_cons_succ, List.set_cons_zero, valC]; rfl) ?_
      refine TL.valE rfl (Val.neq rfl rfl rfl) (by simp only [St.put, List.set_cons_succ, List.set_cons_zero]; rfl) ?_
      refine TL.valE rfl (Val.move 1 rfl rfl) (by simp only [St.put, List.set_cons_succ, List.set_cons_zero]; rfl) ?_
      refine TL.splitG 3 rfl (fun hg3 => ?_) (fun hg3 => ?_)
      · refine TL.guardE rfl rfl hg3 (by first | exact Val.field rfl rfl rfl | exact Val.fieldC rfl rfl rfl) (by simp only [St.put, List.set_cons_succ, List.set_cons_zero, List.getElem_toArray, List.getElem_cons_succ, List.getElem_cons_zero, Nat.zero_add, Nat.reduceAdd]; rfl) ?_
        refine TL.guardE rfl rfl hg3 (by first | exact Val.load rfl rfl rfl rfl rfl | exact Val.loadC rfl rfl rfl) (by simp only [St.put, List.set_cons_succ, List.set_cons_zero, valC]; rfl) ?_
        refine TL.guardE rfl rfl hg3 (Val.not rfl rfl) (by simp only [St.put, List.set_cons_succ, List.set_cons_zero]; rfl) ?_
        refine TL.valE rfl (Val.pickT rfl rfl hg3 rfl) (by simp only [St.put, List.set_cons_succ, List.set_cons_zero]; rfl) ?_
        refine TL.nil ?_
        show TC _ _ _ _ _ _
        refine TC.cond rfl (fun hb => ?_) (fun hb => ?_)
        · -- region 7
          refine TC.region ?_
          refine TL.valE rfl (Val.move 1 rfl rfl) (by simp only [St.put, List.set_cons_succ, List.set_cons_zero]; rfl) ?_
          refine TL.opK rfl fun K hK => ?_
          refine OpT.buildP rfl rfl (xs := [(Go.Operand.const (Go.Value.int Go.IntKind.i64 3))]) rfl rfl rfl rfl (sz := 1) rfl rfl rfl (by decide) (by decide) ?_ -- 28
          simp only [St.fresh, St.kill, St.setRoot, St.put, St.renew, TS.kill, TV.kill, C.kill, Rt.kill, boxC, List.map_cons, List.map_nil, List.filter_cons, List.filter_nil, List.set_cons_succ, List.set_cons_zero, List.contains_cons, List.contains_nil, Nat.reduceBEq, Nat.reduceBNe, St.wrote, hitR, hitP, shapeOf, List.isPrefixOf, List.append_eq, Bool.and_true, Bool.true_and, Bool.and_false, Bool.false_and, List.nil_append, List.cons_append, beq_self_eq_true, bne_self_eq_false, Bool.or_false, Bool.or_true, Bool.not_true, Bool.not_false, Bool.false_eq_true, if_true, if_false, reduceIte, resT, valsD, refsD, refD, nextD, nextsD, cellsD, isSl, List.append_nil]
          refine hK _ ?_
          clear hK K
          refine TL.opK rfl fun K hK => ?_
          refine OpT.appendE rfl rfl rfl (sz := 1) rfl rfl rfl (by simp [isPlain, D.row, elD, cellD]) rfl rfl rfl rfl rfl rfl rfl (by simp; try omega) ?_ -- 29
          simp only [St.fresh, St.kill, St.setRoot, St.put, St.renew, TS.kill, TV.kill, C.kill, Rt.kill, boxC, List.map_cons, List.map_nil, List.filter_cons, List.filter_nil, List.set_cons_succ, List.set_cons_zero, List.contains_cons, List.contains_nil, Nat.reduceBEq, Nat.reduceBNe, St.wrote, hitR, hitP, shapeOf, List.isPrefixOf, List.append_eq, Bool.and_true, Bool.true_and, Bool.and_false, Bool.false_and, List.nil_append, List.cons_append, beq_self_eq_true, bne_self_eq_false, Bool.or_false, Bool.or_true, Bool.not_true, Bool.not_false, Bool.false_eq_true, if_true, if_false, reduceIte, resT, valsD, refsD, refD, nextD, nextsD, cellsD, isSl, List.append_nil]
          refine hK _ ?_
          clear hK K
          refine TL.valE rfl (Val.assign 1 rfl rfl) (by simp only [St.put, List.set_cons_succ, List.set_cons_zero]; rfl) ?_
          refine TL.nil ?_
          show TC _ _ _ _ _ _
          refine TC.seq ?_
          refine TC.seq ?_
          -- region 8
          refine TC.region ?_
          refine TL.valE rfl (by first | exact Val.field rfl rfl rfl | exact Val.fieldC rfl rfl rfl) (by simp only [St.put, List.set_cons_succ, List.set_cons_zero, List.getElem_toArray, List.getElem_cons_succ, List.getElem_cons_zero, Nat.zero_add, Nat.reduceAdd]; rfl) ?_
          refine TL.valE rfl (by first | exact Val.load rfl rfl rfl rfl rfl | exact Val.loadC rfl rfl rfl) (by simp only [St.put, List.set_cons_succ, List.set_cons_zero, valC]; rfl) ?_
          refine TL.valE rfl (Val.eql rfl rfl rfl) (by simp only [St.put, List.set_cons_succ, List.set_cons_zero]; rfl) ?_
          refine TL.valE rfl (Val.move 1 rfl rfl) (by simp only [St.put, List.set_cons_succ, List.set_cons_zero]; rfl) ?_
          refine TL.splitG 3 rfl (fun hg3 => ?_) (fun hg3 => ?_)
          · refine TL.guardE rfl rfl hg3 (by first | exact Val.field rfl rfl rfl | exact Val.fieldC rfl rfl rfl) (by simp only [St.put, List.set_cons_succ, List.set_cons_zero, List.getElem_toArray, List.getElem_cons_succ, List.getElem_cons_zero, Nat.zero_add, Nat.reduceAdd]; rfl) ?_
            refine TL.guardE rfl rfl hg3 (by first | exact Val.load rfl rfl rfl rfl rfl | exact Val.loadC rfl rfl rfl) (by simp only [St.put, List.set_cons_succ, List.set_cons_zero, valC]; rfl) ?_
            refine TL.guardE rfl rfl hg3 (Val.neq rfl rfl rfl) (by simp only [St.put, List.set_cons_succ, List.set_cons_zero]; rfl) ?_
            refine TL.valE rfl (Val.pickT rfl rfl hg3 rfl) (by simp only [St.put, List.set_cons_succ, List.set_cons_zero]; rfl) ?_
            refine TL.nil ?_
            show TC _ _ _ _ _ _
            refine TC.cond rfl (fun hb => ?_) (fun hb => ?_)
            · -- region 9
              refine TC.region ?_
              refine TL.valE rfl (Val.move 1 rfl rfl) (by simp only [St.put, List.set_cons_succ, List.set_cons_zero]; rfl) ?_
              refine TL.opK rfl fun K hK => ?_
              refine OpT.buildP rfl rfl (xs := [(Go.Operand.const (Go.Value.int Go.IntKind.i64 4))]) rfl rfl rfl rfl (sz := 1) rfl rfl rfl (by decide) (by decide) ?_ -- 39
              simp only [St.fresh, St.kill, St.setRoot, St.put, St.renew, TS.kill, TV.kill, C.kill, Rt.kill, boxC, List.map_cons, List.map_nil, List.filter_cons, List.filter_nil, List.set_cons_succ, List.set_cons_zero, List.contains_cons, List.contains_nil, Nat.reduceBEq, Nat.reduceBNe, St.wrote, hitR, hitP, shapeOf, List.isPrefixOf, List.append_eq, Bool.and_true, Bool.true_and, Bool.and_false, Bool.false_and, List.nil_append, List.cons_append, beq_self_eq_true, bne_self_eq_false, Bool.or_false, Bool.or_true, Bool.not_true, Bool.not_false, Bool.false_eq_true, if_true, if_false, reduceIte, resT, valsD, refsD, refD, nextD, nextsD, cellsD, isSl, List.append_nil]
              refine hK _ ?_
              clear hK K
              refine TL.opK rfl fun K hK => ?_
              refine OpT.appendE rfl rfl rfl (sz := 1) rfl rfl rfl (by simp [isPlain, D.row, elD, cellD]) rfl rfl rfl rfl rfl rfl rfl (by simp; try omega) ?_ -- 40
              simp only [St.fresh, St.kill, St.setRoot, St.put, St.renew, TS.kill, TV.kill, C.kill, Rt.kill, boxC, List.map_cons, List.map_nil, List.filter_cons, List.filter_nil, List.set_cons_succ, List.set_cons_zero, List.contains_cons, List.contains_nil, Nat.reduceBEq, Nat.reduceBNe, St.wrote, hitR, hitP, shapeOf, List.isPrefixOf, List.append_eq, Bool.and_true, Bool.true_and, Bool.and_false, Bool.false_and, List.nil_append, List.cons_append, beq_self_eq_true, bne_self_eq_false, Bool.or_false, Bool.or_true, Bool.not_true, Bool.not_false, Bool.false_eq_true, if_true, if_false, reduceIte, resT, valsD, refsD, refD, nextD, nextsD, cellsD, isSl, List.append_nil]
              refine hK _ ?_
              clear hK K
              refine TL.valE rfl (Val.assign 1 rfl rfl) (by simp only [St.put, List.set_cons_succ, List.set_cons_zero]; rfl) ?_
              refine TL.nil ?_
              show TC _ _ _ _ _ _
              refine TC.seq ?_
              -- region 10
              refine TC.region ?_
              refine TL.valE rfl (Val.move 1 rfl rfl) (by simp only [St.put, List.set_cons_succ, List.set_cons_zero]; rfl) ?_
              refine TL.valE rfl (Val.assign 1 rfl rfl) (by simp only [St.put, List.set_cons_succ, List.set_cons_zero]; rfl) ?_
              refine TL.nil ?_
              show TC _ _ _ _ _ _
              refine TC.ret ?_
              exact ⟨.inr rfl, [_], [_], _, rfl, by decide, rfl, by simp [refV, refC, valC], rfl, resL (by simp_all [ctlFaults, elD, cellD])⟩
            · refine TC.skip ?_
              show TC _ _ _ _ _ _
              refine TC.seq ?_
              -- region 10
              refine TC.region ?_
              refine TL.valE rfl (Val.move 1 rfl rfl) (by simp only [St.put, List.set_cons_succ, List.set_cons_zero]; rfl) ?_
              refine TL.valE rfl (Val.assign 1 rfl rfl) (by simp only [St.put, List.set_cons_succ, List.set_cons_zero]; rfl) ?_
              refine TL.nil ?_
              show TC _ _ _ _ _ _
              refine TC.ret ?_
              exact ⟨.inr rfl, [_], [_], _, rfl, by decide, rfl, by simp [refV, refC, valC], rfl, resL (by simp_all [ctlFaults, elD, cellD])⟩
          · iterate 3 (refine TL.skip (nope_b rfl rfl hg3) (by simp only [St.put, List.set_cons_succ, List.set_cons_zero]; rfl) ?_)
            refine TL.valE rfl (Val.pickF rfl rfl hg3 rfl) (by simp only [St.put, List.set_cons_succ, List.set_cons_zero]; rfl) ?_
            refine TL.nil ?_
            show TC _ _ _ _ _ _
            refine TC.cond rfl (fun hb => absurd hb (by simp)) (fun hb => ?_)
            refine TC.skip ?_
            show TC _ _ _ _ _ _
            refine TC.seq ?_
            -- region 10
            refine TC.region ?_
            refine TL.valE rfl (Val.move 1 rfl rfl) (by simp only [St.put, List.set_cons_succ, List.set_cons_zero]; rfl) ?_
            refine TL.valE rfl (Val.assign 1 rfl rfl) (by simp only [St.put, List.set_cons_succ, List.set_cons_zero]; rfl) ?_
            refine TL.nil ?_
            show TC _ _ _ _ _ _
            refine TC.ret ?_
            exact ⟨.inr rfl, [_], [_], _, rfl, by decide, rfl, by simp [refV, refC, valC], rfl, resL (by simp_all [ctlFaults, elD, cellD])⟩
        · refine TC.skip ?_
          show TC _ _ _ _ _ _
          refine TC.seq ?_
          refine TC.seq ?_
          -- region 8
          refine TC.region ?_
          refine TL.valE rfl (by first | exact Val.field rfl rfl rfl | exact Val.fieldC rfl rfl rfl) (by simp only [St.put, List.set_cons_succ, List.set_cons_zero, List.getElem_toArray, List.getElem_cons_succ, List.getElem_cons_zero, Nat.zero_add, Nat.reduceAdd]; rfl) ?_
          refine TL.valE rfl (by first | exact Val.load rfl rfl rfl rfl rfl | exact Val.loadC rfl rfl rfl) (by simp only [St.put, List.set_cons_succ, List.set_cons_zero, valC]; rfl) ?_
          refine TL.valE rfl (Val.eql rfl rfl rfl) (by simp only [St.put, List.set_cons_succ, List.set_cons_zero]; rfl) ?_
          refine TL.valE rfl (Val.move 1 rfl rfl) (by simp only [St.put, List.set_cons_succ, List.set_cons_zero]; rfl) ?_
          refine TL.splitG 3 rfl (fun hg3 => ?_) (fun hg3 => ?_)
          · refine TL.guardE rfl rfl hg3 (by first | exact Val.field rfl rfl rfl | exact Val.fieldC rfl rfl rfl) (by simp only [St.put, List.set_cons_succ, List.set_cons_zero, List.getElem_toArray, List.getElem_cons_succ, List.getElem_cons_zero, Nat.zero_add, Nat.reduceAdd]; rfl) ?_
            refine TL.guardE rfl rfl hg3 (by first | exact Val.load rfl rfl rfl rfl rfl | exact Val.loadC rfl rfl rfl) (by simp only [St.put, List.set_cons_succ, List.set_cons_zero, valC]; rfl) ?_
            refine TL.guardE rfl rfl hg3 (Val.neq rfl rfl rfl) (by simp only [St.put, List.set_cons_succ, List.set_cons_zero]; rfl) ?_
            refine TL.valE rfl (Val.pickT rfl rfl hg3 rfl) (by simp only [St.put, List.set_cons_succ, List.set_cons_zero]; rfl) ?_
            refine TL.nil ?_
            show TC _ _ _ _ _ _
            refine TC.cond rfl (fun hb => ?_) (fun hb => ?_)
            · -- region 9
              refine TC.region ?_
              refine TL.valE rfl (Val.move 1 rfl rfl) (by simp only [St.put, List.set_cons_succ, List.set_cons_zero]; rfl) ?_
              refine TL.opK rfl fun K hK => ?_
              refine OpT.buildP rfl rfl (xs := [(Go.Operand.const (Go.Value.int Go.IntKind.i64 4))]) rfl rfl rfl rfl (sz := 1) rfl rfl rfl (by decide) (by decide) ?_ -- 39
              simp only [St.fresh, St.kill, St.setRoot, St.put, St.renew, TS.kill, TV.kill, C.kill, Rt.kill, boxC, List.map_cons, List.map_nil, List.filter_cons, List.filter_nil, List.set_cons_succ, List.set_cons_zero, List.contains_cons, List.contains_nil, Nat.reduceBEq, Nat.reduceBNe, St.wrote, hitR, hitP, shapeOf, List.isPrefixOf, List.append_eq, Bool.and_true, Bool.true_and, Bool.and_false, Bool.false_and, List.nil_append, List.cons_append, beq_self_eq_true, bne_self_eq_false, Bool.or_false, Bool.or_true, Bool.not_true, Bool.not_false, Bool.false_eq_true, if_true, if_false, reduceIte, resT, valsD, refsD, refD, nextD, nextsD, cellsD, isSl, List.append_nil]
              refine hK _ ?_
              clear hK K
              refine TL.opK rfl fun K hK => ?_
              refine OpT.appendE rfl rfl rfl (sz := 1) rfl rfl rfl (by simp [isPlain, D.row, elD, cellD]) rfl rfl rfl rfl rfl rfl rfl (by simp; try omega) ?_ -- 40
              simp only [St.fresh, St.kill, St.setRoot, St.put, St.renew, TS.kill, TV.kill, C.kill, Rt.kill, boxC, List.map_cons, List.map_nil, List.filter_cons, List.filter_nil, List.set_cons_succ, List.set_cons_zero, List.contains_cons, List.contains_nil, Nat.reduceBEq, Nat.reduceBNe, St.wrote, hitR, hitP, shapeOf, List.isPrefixOf, List.append_eq, Bool.and_true, Bool.true_and, Bool.and_false, Bool.false_and, List.nil_append, List.cons_append, beq_self_eq_true, bne_self_eq_false, Bool.or_false, Bool.or_true, Bool.not_true, Bool.not_false, Bool.false_eq_true, if_true, if_false, reduceIte, resT, valsD, refsD, refD, nextD, nextsD, cellsD, isSl, List.append_nil]
              refine hK _ ?_
              clear hK K
              refine TL.valE rfl (Val.assign 1 rfl rfl) (by simp only [St.put, List.set_cons_succ, List.set_cons_zero]; rfl) ?_
              refine TL.nil ?_
              show TC _ _ _ _ _ _
              refine TC.seq ?_
              -- region 10
              refine TC.region ?_
              refine TL.valE rfl (Val.move 1 rfl rfl) (by simp only [St.put, List.set_cons_succ, List.set_cons_zero]; rfl) ?_
              refine TL.valE rfl (Val.assign 1 rfl rfl) (by simp only [St.put, List.set_cons_succ, List.set_cons_zero]; rfl) ?_
              refine TL.nil ?_
              show TC _ _ _ _ _ _
              refine TC.ret ?_
              exact ⟨.inr rfl, [_], [_], _, rfl, by decide, rfl, by simp [refV, refC, valC], rfl, resL (by simp_all [ctlFaults, elD, cellD])⟩
            · refine TC.skip ?_
              show TC _ _ _ _ _ _
              refine TC.seq ?_
              -- region 10
              refine TC.region ?_
              refine TL.valE rfl (Val.move 1 rfl rfl) (by simp only [St.put, List.set_cons_succ, List.set_cons_zero]; rfl) ?_
              refine TL.valE rfl (Val.assign 1 rfl rfl) (by simp only [St.put, List.set_cons_succ, List.set_cons_zero]; rfl) ?_
              refine TL.nil ?_
              show TC _ _ _ _ _ _
              refine TC.ret ?_
              exact ⟨.inr rfl, [_], [_], _, rfl, by decide, rfl, by simp [refV, refC, valC], rfl, resL (by simp_all [ctlFaults, elD, cellD])⟩
          · iterate 3 (refine TL.skip (nope_b rfl rfl hg3) (by simp only [St.put, List.set_cons_succ, List.set_cons_zero]; rfl) ?_)
            refine TL.valE rfl (Val.pickF rfl rfl hg3 rfl) (by simp only [St.put, List.set_cons_succ, List.set_cons_zero]; rfl) ?_
            refine TL.nil ?_
            show TC _ _ _ _ _ _
            refine TC.cond rfl (fun hb => absurd hb (by simp)) (fun hb => ?_)
            refine TC.skip ?_
            show TC _ _ _ _ _ _
            refine TC.seq ?_
            -- region 10
            refine TC.region ?_
            refine TL.valE rfl (Val.move 1 rfl rfl) (by simp only [St.put, List.set_cons_succ, List.set_cons_zero]; rfl) ?_
            refine TL.valE rfl (Val.assign 1 rfl rfl) (by simp only [St.put, List.set_cons_succ, List.set_cons_zero]; rfl) ?_
            refine TL.nil ?_
            show TC _ _ _ _ _ _
            refine TC.ret ?_
            exact ⟨.inr rfl, [_], [_], _, rfl, by decide, rfl, by simp [refV, refC, valC], rfl, resL (by simp_all [ctlFaults, elD, cellD])⟩
      · iterate 3 (refine TL.skip (nope_b rfl rfl hg3) (by simp only [St.put, List.set_cons_succ, List.set_cons_zero]; rfl) ?_)
        refine TL.valE rfl (Val.pickF rfl rfl hg3 rfl) (by simp only [St.put, List.set_cons_succ, List.set_cons_zero]; rfl) ?_
        refine TL.nil ?_
        show TC _ _ _ _ _ _
        refine TC.cond rfl (fun hb => absurd hb (by simp)) (fun hb => ?_)
        refine TC.skip ?_
        show TC _ _ _ _ _ _
        refine TC.seq ?_
        refine TC.seq ?_
        -- region 8
        refine TC.region ?_
        refine TL.valE rfl (by first | exact Val.field rfl rfl rfl | exact Val.fieldC rfl rfl rfl) (by simp only [St.put, List.set_cons_succ, List.set_cons_zero, List.getElem_toArray, List.getElem_cons_succ, List.getElem_cons_zero, Nat.zero_add, Nat.reduceAdd]; rfl) ?_
        refine TL.valE rfl (by first | exact Val.load rfl rfl rfl rfl rfl | exact Val.loadC rfl rfl rfl) (by simp only [St.put, List.set_cons_succ, List.set_cons_zero, valC]; rfl) ?_
        refine TL.valE rfl (Val.eql rfl rfl rfl) (by simp only [St.put, List.set_cons_succ, List.set_cons_zero]; rfl) ?_
        refine TL.valE rfl (Val.move 1 rfl rfl) (by simp only [St.put, List.set_cons_succ, List.set_cons_zero]; rfl) ?_
        refine TL.splitG 3 rfl (fun hg3 => ?_) (fun hg3 => ?_)
        · refine TL.guardE rfl rfl hg3 (by first | exact Val.field rfl rfl rfl | exact Val.fieldC rfl rfl rfl) (by simp only [St.put, List.set_cons_succ, List.set_cons_zero, List.getElem_toArray, List.getElem_cons_succ, List.getElem_cons_zero, Nat.zero_add, Nat.reduceAdd]; rfl) ?_
          refine TL.guardE rfl rfl hg3 (by first | exact Val.load rfl rfl rfl rfl rfl | exact Val.loadC rfl rfl rfl) (by simp only [St.put, List.set_cons_succ, List.set_cons_zero, valC]; rfl) ?_
          refine TL.guardE rfl rfl hg3 (Val.neq rfl rfl rfl) (by simp only [St.put, List.set_cons_succ, List.set_cons_zero]; rfl) ?_
          refine TL.valE rfl (Val.pickT rfl rfl hg3 rfl) (by simp only [St.put, List.set_cons_succ, List.set_cons_zero]; rfl) ?_
          refine TL.nil ?_
          show TC _ _ _ _ _ _
          refine TC.cond rfl (fun hb => ?_) (fun hb => ?_)
          · -- region 9
            refine TC.region ?_
            refine TL.valE rfl (Val.move 1 rfl rfl) (by simp only [St.put, List.set_cons_succ, List.set_cons_zero]; rfl) ?_
            refine TL.opK rfl fun K hK => ?_
            refine OpT.buildP rfl rfl (xs := [(Go.Operand.const (Go.Value.int Go.IntKind.i64 4))]) rfl rfl rfl rfl (sz := 1) rfl rfl rfl (by decide) (by decide) ?_ -- 39
            simp only [St.fresh, St.kill, St.setRoot, St.put, St.renew, TS.kill, TV.kill, C.kill, Rt.kill, boxC, List.map_cons, List.map_nil, List.filter_cons, List.filter_nil, List.set_cons_succ, List.set_cons_zero, List.contains_cons, List.contains_nil, Nat.reduceBEq, Nat.reduceBNe, St.wrote, hitR, hitP, shapeOf, List.isPrefixOf, List.append_eq, Bool.and_true, Bool.true_and, Bool.and_false, Bool.false_and, List.nil_append, List.cons_append, beq_self_eq_true, bne_self_eq_false, Bool.or_false, Bool.or_true, Bool.not_true, Bool.not_false, Bool.false_eq_true, if_true, if_false, reduceIte, resT, valsD, refsD, refD, nextD, nextsD, cellsD, isSl, List.append_nil]
            refine hK _ ?_
            clear hK K
            refine TL.opK rfl fun K hK => ?_
            refine OpT.appendE rfl rfl rfl (sz := 1) rfl rfl rfl (by simp [isPlain, D.row, elD, cellD]) rfl rfl rfl rfl rfl rfl rfl (by simp; try omega) ?_ -- 40
            simp only [St.fresh, St.kill, St.setRoot, St.put, St.renew, TS.kill, TV.kill, C.kill, Rt.kill, boxC, List.map_cons, List.map_nil, List.filter_cons, List.filter_nil, List.set_cons_succ, List.set_cons_zero, List.contains_cons, List.contains_nil, Nat.reduceBEq, Nat.reduceBNe, St.wrote, hitR, hitP, shapeOf, List.isPrefixOf, List.append_eq, Bool.and_true, Bool.true_and, Bool.and_false, Bool.false_and, List.nil_append, List.cons_append, beq_self_eq_true, bne_self_eq_false, Bool.or_false, Bool.or_true, Bool.not_true, Bool.not_false, Bool.false_eq_true, if_true, if_false, reduceIte, resT, valsD, refsD, refD, nextD, nextsD, cellsD, isSl, List.append_nil]
            refine hK _ ?_
            clear hK K
            refine TL.valE rfl (Val.assign 1 rfl rfl) (by simp only [St.put, List.set_cons_succ, List.set_cons_zero]; rfl) ?_
            refine TL.nil ?_
            show TC _ _ _ _ _ _
            refine TC.seq ?_
            -- region 10
            refine TC.region ?_
            refine TL.valE rfl (Val.move 1 rfl rfl) (by simp only [St.put, List.set_cons_succ, List.set_cons_zero]; rfl) ?_
            refine TL.valE rfl (Val.assign 1 rfl rfl) (by simp only [St.put, List.set_cons_succ, List.set_cons_zero]; rfl) ?_
            refine TL.nil ?_
            show TC _ _ _ _ _ _
            refine TC.ret ?_
            exact ⟨.inr rfl, [_], [_], _, rfl, by decide, rfl, by simp [refV, refC, valC], rfl, resL (by simp_all [ctlFaults, elD, cellD])⟩
          · refine TC.skip ?_
            show TC _ _ _ _ _ _
            refine TC.seq ?_
            -- region 10
            refine TC.region ?_
            refine TL.valE rfl (Val.move 1 rfl rfl) (by simp only [St.put, List.set_cons_succ, List.set_cons_zero]; rfl) ?_
            refine TL.valE rfl (Val.assign 1 rfl rfl) (by simp only [St.put, List.set_cons_succ, List.set_cons_zero]; rfl) ?_
            refine TL.nil ?_
            show TC _ _ _ _ _ _
            refine TC.ret ?_
            exact ⟨.inr rfl, [_], [_], _, rfl, by decide, rfl, by simp [refV, refC, valC], rfl, resL (by simp_all [ctlFaults, elD, cellD])⟩
        · iterate 3 (refine TL.skip (nope_b rfl rfl hg3) (by simp only [St.put, List.set_cons_succ, List.set_cons_zero]; rfl) ?_)
          refine TL.valE rfl (Val.pickF rfl rfl hg3 rfl) (by simp only [St.put, List.set_cons_succ, List.set_cons_zero]; rfl) ?_
          refine TL.nil ?_
          show TC _ _ _ _ _ _
          refine TC.cond rfl (fun hb => absurd hb (by simp)) (fun hb => ?_)
          refine TC.skip ?_
          show TC _ _ _ _ _ _
          refine TC.seq ?_
          -- region 10
          refine TC.region ?_
          refine TL.valE rfl (Val.move 1 rfl rfl) (by simp only [St.put, List.set_cons_succ, List.set_cons_zero]; rfl) ?_
          refine TL.valE rfl (Val.assign 1 rfl rfl) (by simp only [St.put, List.set_cons_succ, List.set_cons_zero]; rfl) ?_
          refine TL.nil ?_
          show TC _ _ _ _ _ _
          refine TC.ret ?_
          exact ⟨.inr rfl, [_], [_], _, rfl, by decide, rfl, by simp [refV, refC, valC], rfl, resL (by simp_all [ctlFaults, elD, cellD])⟩

-- loop.example/g00975/impl.CtlOk: params ['impl.Ctl = loop.example/g00975/impl.Ctl'] results ['bool'] ('arr', [('app', 'Go.ResultVar.tmp', ['2'])])
theorem impl_CtlOk_f (x : VCtl) : Fun Try.prog 59 [A (rCtl x)] (RV (.bool (ctlOk x))) := by
  refine Fun.of Try.func59 rfl (by simp [Try.ntmps59]) fun w g0 => ?_
  simp only [Try.ntmps59, List.length_cons, List.length_nil, Nat.reduceAdd, Nat.reduceSub, List.replicate, List.cons_append, List.nil_append]
  refine TC.seq ?_
  -- region 0
  refine TC.region ?_
  refine TL.opK rfl fun K hK => ?_
  first | refine OpT.box rfl rfl (z := 1) rfl (by simp) ?_ | refine OpT.boxAgg rfl rfl rfl ?_ -- 1
  simp only [St.fresh, St.kill, St.setRoot, St.put, St.renew, TS.kill, TV.kill, C.kill, Rt.kill, boxC, List.map_cons, List.map_nil, List.filter_cons, List.filter_nil, List.set_cons_succ, List.set_cons_zero, List.contains_cons, List.contains_nil, Nat.reduceBEq, Nat.reduceBNe, St.wrote, hitR, hitP, shapeOf, List.isPrefixOf, List.append_eq, Bool.and_true, Bool.true_and, Bool.and_false, Bool.false_and, List.nil_append, List.cons_append, beq_self_eq_true, bne_self_eq_false, Bool.or_false, Bool.or_true, Bool.not_true, Bool.not_false, Bool.false_eq_true, if_true, if_false, reduceIte, resT, valsD, refsD, refD, nextD, nextsD, cellsD, isSl, List.append_nil]
  refine hK _ ?_
  clear hK K
  refine TL.valE rfl (Val.assign 1 rfl rfl) (by simp only [St.put, List.set_cons_succ, List.set_cons_zero]; rfl) ?_
  refine TL.nil ?_
  show TC _ _ _ _ _ _
  refine TC.seq ?_
  -- region 1
  refine TC.region ?_
  refine TL.valE rfl (by first | exact Val.loadCAgg (n := 3) rfl rfl rfl rfl (Nat.le_of_ble_eq_true rfl) | exact Val.loadAgg (n := 3) rfl rfl rfl rfl (by simp [St.cellsAt, St.cellAt, St.root, valC]; rfl) rfl | exact Val.loadAgg (n := 3) rfl rfl rfl rfl rfl rfl) (by simp only [St.put, List.set_cons_succ, List.set_cons_zero, valC, dCtl, rCtl, D.row, List.take_succ_cons, List.take_zero, List.map_cons, List.map_nil]; rfl) ?_
  refine TL.opK rfl fun K hK => ?_
  refine OpT.callL rfl rfl rfl rfl rfl rfl (impl_CtlFaults_f x) (by repeat first | exact .nil | refine Snaps.cons (.ro _) ?_ | refine Snaps.cons (.aggRo rfl) ?_ | refine Snaps.cons (.cptr _) ?_ | refine Snaps.cons (.fn _) ?_ | refine Snaps.cons (.ownRef rfl (by first | assumption | exact w_IntS _ | exact w_IntSS _ | exact w_InsS _ | exact w_SlotS _ | exact w_GuestS _ | exact w_BareS _)) ?_ | refine Snaps.cons (.aggR (by repeat first | exact .nil | refine SnapCs.cons (.ro _) ?_ | refine SnapCs.cons (.ref rfl (by first | assumption | exact w_IntS _ | exact w_IntSS _ | exact w_InsS _ | exact w_SlotS _ | exact w_GuestS _ | exact w_BareS _)) ?_)) ?_) ?_ -- 4
  simp only [St.fresh, St.kill, St.setRoot, St.put, St.renew, TS.kill, TV.kill, C.kill, Rt.kill, boxC, List.map_cons, List.map_nil, List.filter_cons, List.filter_nil, List.set_cons_succ, List.set_cons_zero, List.contains_cons, List.contains_nil, Nat.reduceBEq, Nat.reduceBNe, St.wrote, hitR, hitP, shapeOf, List.isPrefixOf, List.append_eq, Bool.and_true, Bool.true_and, Bool.and_false, Bool.false_and, List.nil_append, List.cons_append, beq_self_eq_true, bne_self_eq_false, Bool.or_false, Bool.or_true, Bool.not_true, Bool.not_false, Bool.false_eq_true, if_true, if_false, reduceIte, resT, valsD, refsD, refD, nextD, nextsD, cellsD, isSl, List.append_nil]
  refine hK _ ?_
  clear hK K
  refine TL.valE rfl (by first | exact Val.len rfl rfl rfl rfl | exact Val.lenS rfl rfl rfl) (by simp only [St.put, List.set_cons_succ, List.set_cons_zero]; rfl) ?_
  refine TL.valE rfl (Val.eql rfl rfl rfl) (by simp only [St.put, List.set_cons_succ, List.set_cons_zero]; rfl) ?_
  refine TL.valE rfl (Val.assign 1 rfl rfl) (by simp only [St.put, List.set_cons_succ, List.set_cons_zero]; rfl) ?_
  refine TL.nil ?_
  show TC _ _ _ _ _ _
  refine TC.ret ?_
  exact ⟨.inr rfl, [_], [_], _, rfl, by decide, rfl, by simp [refV, refC, valC], rfl, resV (by simp [ctlOk]; rw [Bool.eq_iff_iff]; simp)⟩
end Go.Proofs.Ytakfcjjmbjagiaa.T

