/- Lines of a bare machine: both sides. PRINTED by gen.py out of spec_lines.py. -/
import Derived.Test.YtdlpmcjpbcbbjaaDoorWe
namespace Go.Proofs.YtdlpmcjpbcbbjaaDoor.T
open Go
set_option linter.unusedVariables false
set_option linter.unusedSimpArgs false
set_option maxRecDepth 100000
set_option maxHeartbeats 1000000


def bareLines (x : VBare) : List ByteArray := x.Guests.map guestLine ++ [if x.Outs.length = 0 then ⟨#[111, 117, 116]⟩ else ⟨#[111, 117, 116, 32]⟩ ++ numsText x.Outs]
-- loop.example/g00975/spec.BareLines: params ['impl.Bare = loop.example/g00975/impl.Bare'] results ['[]string'] ('arr', [('app', 'Go.ResultVar.tmp', ['2'])])
theorem spec_BareLines_f (x : VBare) (hg : ∀ g ∈ x.Guests, GuestI g) (ho : ∀ n ∈ x.Outs, I64 n) (hx : SmBare x) : Fun Tryd.prog 14 [A (rBare x)] (RL 1 ((bareLines x).map fun s => .v (.string s))) := by
  refine Fun.of Tryd.func14 rfl (by simp [Tryd.ntmps14]) fun w g0 => ?_
  simp only [Tryd.ntmps14, List.length_cons, List.length_nil, Nat.reduceAdd, Nat.reduceSub, List.replicate, List.cons_append, List.nil_append]
  have hgl : x.Guests.length ≤ 1048576 := hx.2.1.1
  have hol : x.Outs.length ≤ 1048576 := hx.2.2
  have hot := numsText_all ho
  refine TC.seq ?_
  -- region 0
  refine TC.region ?_
  refine TL.opK rfl fun K hK => ?_
  first | refine OpT.box rfl rfl (z := 1) rfl (by simp) ?_ | refine OpT.boxAgg rfl rfl rfl ?_ -- 1
  simp only [St.fresh, St.kill, St.setRoot, St.put, St.renew, TS.kill, TV.kill, C.kill, Rt.kill, boxC, List.map_cons, List.map_nil, List.filter_cons, List.filter_nil, List.set_cons_succ, List.set_cons_zero, List.contains_cons, List.contains_nil, Nat.reduceBEq, Nat.reduceBNe, St.wrote, hitR, hitP, shapeOf, List.isPrefixOf, List.append_eq, Bool.and_true, Bool.true_and, Bool.and_false, Bool.false_and, List.nil_append, List.cons_append, beq_self_eq_true, bne_self_eq_false, Bool.or_false, Bool.or_true, Bool.not_true, Bool.not_false, Bool.false_eq_true, if_true, if_false, reduceIte, resT, valsD, refsD, refD, nextD, nextsD, cellsD, isSl, List.append_nil]
  refine hK _ ?_
  clear hK K
  refine TL.valE rfl (Val.assign 1 rfl rfl) (by simp only [St.put, List.set_cons_succ, List.set_cons_zero]; rfl) ?_
  refine TL.nil ?_
  show TC _ _ _ _ _ _
  refine TC.seq ?_
  -- region 1
  refine TC.region ?_
  refine TL.opK rfl fun K hK => ?_
  refine OpT.build0 (sz := 1) rfl rfl rfl rfl ?_ -- 5
  simp only [St.fresh, St.kill, St.setRoot, St.put, St.renew, TS.kill, TV.kill, C.kill, Rt.kill, boxC, List.map_cons, List.map_nil, List.filter_cons, List.filter_nil, List.set_cons_succ, List.set_cons_zero, List.contains_cons, List.contains_nil, Nat.reduceBEq, Nat.reduceBNe, St.wrote, hitR, hitP, shapeOf, List.isPrefixOf, List.append_eq, Bool.and_true, Bool.true_and, Bool.and_false, Bool.false_and, List.nil_append, List.cons_append, beq_self_eq_true, bne_self_eq_false, Bool.or_false, Bool.or_true, Bool.not_true, Bool.not_false, Bool.false_eq_true, if_true, if_false, reduceIte, resT, valsD, refsD, refD, nextD, nextsD, cellsD, isSl, List.append_nil]
  refine hK _ ?_
  clear hK K
  refine TL.valE rfl (Val.assign 1 rfl rfl) (by simp only [St.put, List.set_cons_succ, List.set_cons_zero]; rfl) ?_
  refine TL.nil ?_
  show TC _ _ _ _ _ _
  refine TC.seq ?_
  refine TC.seq ?_
  -- region 2
  refine TC.region ?_
  refine TL.valE rfl (Val.assign 1 rfl rfl) (by simp only [St.put, List.set_cons_succ, List.set_cons_zero]; rfl) ?_
  refine TL.nil ?_
  show TC _ _ _ _ _ _
  refine TC.block ?_
  refine TC.loop (fun μ st => ∃ (i : Nat) (out : List ByteArray), (i ≤ x.Guests.length ∧ out = (x.Guests.take i).map guestLine) ∧ μ = x.Guests.length - i ∧ Can st ⟨[.one .dead, .one (.ptr ⟨1, [], 0⟩), .one .dead, .one (.c (.ref ⟨3, [], 0⟩)), I i, .one .dead, .one .dead, .one .dead, .one .dead, .one .dead, .one .dead, .one .dead, .one .dead, .one .dead, .one .dead, .one .dead, .one .dead, .one .dead, .one .dead, .one .dead, .one .dead, .one .dead, .one .dead, .one .dead, .one .dead, .one .dead, .one .dead, .one .dead, .one .dead, .one .dead, .one .dead, .one .dead, .one .dead, .one .dead, .one .dead, .one .dead], [(3, ⟨false, [.own (.sl 1 (out.map fun s => .v (.string s)))]⟩), (1, ⟨true, [.ro (.sl 1 (x.Memory.map dIntS)), .ro (.sl 15 (x.Guests.map dGuest)), .ro (.sl 1 (x.Outs.map dInt)), .own (.v (.int .i64 x.Pending))]⟩)]⟩) (x.Guests.length) ?_ fun μ st hI => ?_
  · refine ⟨0, [], ⟨by omega, rfl⟩, by simp, ?_⟩
    exact Can.name 5 3 (by simp only [St.name, nameS, nameV, nameC, nameR, List.map_cons, List.map_nil, Nat.reduceEqDiff, if_true, if_false, ne_eq, not_true, not_false, and_true, and_false, true_and, false_and, reduceIte]; rfl) (Can.to (by repeat first | exact LessT.nil | refine LessT.drop ?_ | refine LessT.keep ?_ | refine LessT.eq (by first | rfl | (simp; done) | (simp; omega) | simp_all) ?_) (.cons rfl rfl (.cons rfl rfl .nil)))
  · obtain ⟨i, out, hyp, rfl, hcan⟩ := hI
    refine TC.can hcan ?_
    clear hcan
    refine TC.seq ?_
    refine TC.seq ?_
    -- region 3
    refine TC.region ?_
    refine TL.valE rfl (Val.move 1 rfl rfl) (by simp only [St.put, List.set_cons_succ, List.set_cons_zero]; rfl) ?_
    refine TL.valE rfl (by first | exact Val.field rfl rfl rfl | exact Val.fieldC rfl rfl rfl) (by simp only [St.put, List.set_cons_succ, List.set_cons_zero, List.getElem_toArray, List.getElem_cons_succ, List.getElem_cons_zero, Nat.zero_add, Nat.reduceAdd]; rfl) ?_
    refine TL.valE rfl (by first | exact Val.load rfl rfl rfl rfl rfl | exact Val.loadC rfl rfl rfl) (by simp only [St.put, List.set_cons_succ, List.set_cons_zero, valC]; rfl) ?_
    refine TL.valE rfl (by first | exact Val.len rfl rfl rfl rfl | exact Val.lenS rfl rfl rfl) (by simp only [St.put, List.set_cons_succ, List.set_cons_zero]; rfl) ?_
    refine TL.valE rfl (Val.lss rfl rfl rfl) (by simp only [St.put, List.set_cons_succ, List.set_cons_zero]; rfl) ?_
    refine TL.nil ?_
    show TC _ _ _ _ _ _
    refine TC.cond rfl (fun hb => ?_) (fun hb => ?_)
    · refine TC.skip ?_
      show TC _ _ _ _ _ _
      refine TC.seq ?_
      refine TC.block ?_
      have hi : i < x.Guests.length := by simpa using hb
      obtain ⟨y, hy⟩ := at_of (xs := x.Guests) (k := i) hi
      have hym := List.mem_of_getElem? hy
      have hou : out.length ≤ 1048576 := by rw [hyp.2]; simp; omega
      -- region 5
      refine TC.region ?_
      refine TL.valE rfl (Val.move 1 rfl rfl) (by simp only [St.put, List.set_cons_succ, List.set_cons_zero]; rfl) ?_
      refine TL.valE rfl (by first | exact Val.field rfl rfl rfl | exact Val.fieldC rfl rfl rfl) (by simp only [St.put, List.set_cons_succ, List.set_cons_zero, List.getElem_toArray, List.getElem_cons_succ, List.getElem_cons_zero, Nat.zero_add, Nat.reduceAdd]; rfl) ?_
      refine TL.valE rfl (by first | exact Val.load rfl rfl rfl rfl rfl | exact Val.loadC rfl rfl rfl) (by simp only [St.put, List.set_cons_succ, List.set_cons_zero, valC]; rfl) ?_
      refine TL.valE rfl (Val.move 1 rfl rfl) (by simp only [St.put, List.set_cons_succ, List.set_cons_zero]; rfl) ?_
      refine TL.valE rfl (by exact Val.indexC (d := dGuest y) rfl rfl rfl rfl rfl (by omega) (by simp [hy])) (by simp only [St.put, List.set_cons_succ, List.set_cons_zero]; rfl) ?_
      refine TL.valE rfl (by first | exact Val.loadCAgg (n := 15) rfl rfl rfl rfl (Nat.le_of_ble_eq_true rfl) | exact Val.loadAgg (n := 15) rfl rfl rfl rfl (by simp [St.cellsAt, St.cellAt, St.root, valC]; rfl) rfl | exact Val.loadAgg (n := 15) rfl rfl rfl rfl rfl rfl) (by simp only [St.put, List.set_cons_succ, List.set_cons_zero, valC, dGuest, rGuest, D.row, List.take_succ_cons, List.take_zero, List.map_cons, List.map_nil]; rfl) ?_
      refine TL.callF (yes_none rfl) rfl rfl rfl rfl rfl rfl ((spec_GuestLine_f y (hg y hym) (hx.2.1.2 y hym).2.2.2).k) (by repeat first | exact .nil | refine Snaps.cons (.ro _) ?_ | refine Snaps.cons (.aggRo rfl) ?_ | refine Snaps.cons (.cptr _) ?_ | refine Snaps.cons (.fn _) ?_ | refine Snaps.cons (.ownRef rfl (by first | assumption | exact w_IntS _ | exact w_IntSS _ | exact w_InsS _ | exact w_SlotS _ | exact w_GuestS _ | exact whole_map _ _ (fun w c hc => by simp only [D.row, List.mem_cons, List.not_mem_nil, or_false] at hc; subst hc; exact .v _))) ?_ | refine Snaps.cons (.aggR (by repeat first | exact .nil | refine SnapCs.cons (.ro _) ?_ | refine SnapCs.cons (.ref rfl (by first | assumption | exact w_IntS _ | exact w_IntSS _ | exact w_InsS _ | exact w_SlotS _ | exact w_GuestS _ | exact whole_map _ _ (fun w c hc => by simp only [D.row, List.mem_cons, List.not_mem_nil, or_false] at hc; subst hc; exact .v _))) ?_)) ?_) rfl (by simp only [St.put, List.set_cons_succ, List.set_cons_zero]; rfl) ?_
      refine TL.opK rfl fun K hK => ?_
      refine OpT.buildP rfl rfl (xs := [(Go.Operand.tmp 19)]) rfl rfl rfl rfl (sz := 1) rfl rfl rfl (by decide) (by decide) ?_ -- 20
      simp only [St.fresh, St.kill, St.setRoot, St.put, St.renew, TS.kill, TV.kill, C.kill, Rt.kill, boxC, List.map_cons, List.map_nil, List.filter_cons, List.filter_nil, List.set_cons_succ, List.set_cons_zero, List.contains_cons, List.contains_nil, Nat.reduceBEq, Nat.reduceBNe, St.wrote, hitR, hitP, shapeOf, List.isPrefixOf, List.append_eq, Bool.and_true, Bool.true_and, Bool.and_false, Bool.false_and, List.nil_append, List.cons_append, beq_self_eq_true, bne_self_eq_false, Bool.or_false, Bool.or_true, Bool.not_true, Bool.not_false, Bool.false_eq_true, if_true, if_false, reduceIte, resT, valsD, refsD, refD, nextD, nextsD, cellsD, isSl, List.append_nil]
      refine hK _ ?_
      clear hK K
      refine TL.opK rfl fun K hK => ?_
      refine OpT.appendE rfl rfl rfl (sz := 1) rfl rfl rfl (by simp [isPlain, D.row, elD, cellD]) rfl rfl rfl rfl rfl rfl rfl (by simp; try omega) ?_ -- 21
      simp only [St.fresh, St.kill, St.setRoot, St.put, St.renew, TS.kill, TV.kill, C.kill, Rt.kill, boxC, List.map_cons, List.map_nil, List.filter_cons, List.filter_nil, List.set_cons_succ, List.set_cons_zero, List.contains_cons, List.contains_nil, Nat.reduceBEq, Nat.reduceBNe, St.wrote, hitR, hitP, shapeOf, List.isPrefixOf, List.append_eq, Bool.and_true, Bool.true_and, Bool.and_false, Bool.false_and, List.nil_append, List.cons_append, beq_self_eq_true, bne_self_eq_false, Bool.or_false, Bool.or_true, Bool.not_true, Bool.not_false, Bool.false_eq_true, if_true, if_false, reduceIte, resT, valsD, refsD, refD, nextD, nextsD, cellsD, isSl, List.append_nil]
      refine hK _ ?_
      clear hK K
      refine TL.valE rfl (Val.assign 1 rfl rfl) (by simp only [St.put, List.set_cons_succ, List.set_cons_zero]; rfl) ?_
      refine TL.nil ?_
      show TC _ _ _ _ _ _
      -- region 4
      refine TC.region ?_
      refine TL.valE rfl (Val.move 1 rfl rfl) (by simp only [St.put, List.set_cons_succ, List.set_cons_zero]; rfl) ?_
      refine TL.valE rfl (Val.add rfl rfl rfl (by first | omega | (simp only [List.length_map]; omega)) (by first | omega | (simp only [List.length_map]; omega))) (by simp only [St.put, List.set_cons_succ, List.set_cons_zero]; rfl) ?_
      refine TL.valE rfl (Val.assign 1 rfl rfl) (by simp only [St.put, List.set_cons_succ, List.set_cons_zero]; rfl) ?_
      refine TL.nil ?_
      first | refine Seq.normal ⟨_, ?_, i + 1, out ++ [guestLine y], ?_, rfl, ?_⟩ | refine Seq.normal (Q := fun _ _ => True) ⟨_, ?_, i + 1, out ++ [guestLine y], ?_, rfl, ?_⟩
      · omega
      · exact ⟨by omega, by rw [hyp.2, List.take_add_one, hy]; simp⟩
      · exact Can.name 21 3 (by simp only [St.name, nameS, nameV, nameC, nameR, List.map_cons, List.map_nil, Nat.reduceEqDiff, if_true, if_false, ne_eq, not_true, not_false, and_true, and_false, true_and, false_and, reduceIte]; rfl) (Can.to (by repeat first | exact LessT.nil | refine LessT.drop ?_ | refine LessT.keep ?_ | refine LessT.eq (by first | rfl | (simp; done) | (simp; omega) | simp_all) ?_) (.cons rfl (by simp [elD, cellD]) (.cons rfl rfl .nil)))
    · refine TC.exit ?_
      -- exit 0
      show TC _ _ _ _ _ _
      refine TC.seq ?_
      refine TC.seq ?_
      have hie : x.Guests.length ≤ i := by simp at hb; omega
      have hou : out.length ≤ 1048576 := by rw [hyp.2]; simp; omega
      have hpo := hyp.2
      rw [List.take_of_length_le hie] at hpo
      -- region 6
      refine TC.region ?_
      refine TL.valE rfl (by first | exact Val.field rfl rfl rfl | exact Val.fieldC rfl rfl rfl) (by simp only [St.put, List.set_cons_succ, List.set_cons_zero, List.getElem_toArray, List.getElem_cons_succ, List.getElem_cons_zero, Nat.zero_add, Nat.reduceAdd]; rfl) ?_
      refine TL.valE rfl (by first | exact Val.load rfl rfl rfl rfl rfl | exact Val.loadC rfl rfl rfl) (by simp only [St.put, List.set_cons_succ, List.set_cons_zero, valC]; rfl) ?_
      refine TL.valE rfl (by first | exact Val.len rfl rfl rfl rfl | exact Val.lenS rfl rfl rfl) (by simp only [St.put, List.set_cons_succ, List.set_cons_zero]; rfl) ?_
      refine TL.valE rfl (Val.eql rfl rfl rfl) (by simp only [St.put, List.set_cons_succ, List.set_cons_zero]; rfl) ?_
      refine TL.nil ?_
      show TC _ _ _ _ _ _
      refine TC.cond rfl (fun hb => ?_) (fun hb => ?_)
      · refine TC.seq ?_
        have hz : x.Outs.length = 0 := by simp at hb; simp [hb]
        -- region 7
        refine TC.region ?_
        refine TL.valE rfl (Val.move 1 rfl rfl) (by simp only [St.put, List.set_cons_succ, List.set_cons_zero]; rfl) ?_
        refine TL.opK rfl fun K hK => ?_
        refine OpT.buildP rfl rfl (xs := [(Go.Operand.const (Go.Value.string { data := #[111, 117, 116] }))]) rfl rfl rfl rfl (sz := 1) rfl rfl rfl (by decide) (by decide) ?_ -- 27
        simp only [St.fresh, St.kill, St.setRoot, St.put, St.renew, TS.kill, TV.kill, C.kill, Rt.kill, boxC, List.map_cons, List.map_nil, List.filter_cons, List.filter_nil, List.set_cons_succ, List.set_cons_zero, List.contains_cons, List.contains_nil, Nat.reduceBEq, Nat.reduceBNe, St.wrote, hitR, hitP, shapeOf, List.isPrefixOf, List.append_eq, Bool.and_true, Bool.true_and, Bool.and_false, Bool.false_and, List.nil_append, List.cons_append, beq_self_eq_true, bne_self_eq_false, Bool.or_false, Bool.or_true, Bool.not_true, Bool.not_false, Bool.false_eq_true, if_true, if_false, reduceIte, resT, valsD, refsD, refD, nextD, nextsD, cellsD, isSl, List.append_nil]
        refine hK _ ?_
        clear hK K
        refine TL.opK rfl fun K hK => ?_
        refine OpT.appendE rfl rfl rfl (sz := 1) rfl rfl rfl (by simp [isPlain, D.row, elD, cellD]) rfl rfl rfl rfl rfl rfl rfl (by simp; try omega) ?_ -- 28
        simp only [St.fresh, St.kill, St.setRoot, St.put, St.renew, TS.kill, TV.kill, C.kill, Rt.kill, boxC, List.map_cons, List.map_nil, List.filter_cons, List.filter_nil, List.set_cons_succ, List.set_cons_zero, List.contains_cons, List.contains_nil, Nat.reduceBEq, Nat.reduceBNe, St.wrote, hitR, hitP, shapeOf, List.isPrefixOf, List.append_eq, Bool.and_true, Bool.true_and, Bool.and_false, Bool.false_and, List.nil_append, List.cons_append, beq_self_eq_true, bne_self_eq_false, Bool.or_false, Bool.or_true, Bool.not_true, Bool.not_false, Bool.false_eq_true, if_true, if_false, reduceIte, resT, valsD, refsD, refD, nextD, nextsD, cellsD, isSl, List.append_nil]
        refine hK _ ?_
        clear hK K
        refine TL.valE rfl (Val.assign 1 rfl rfl) (by simp only [St.put, List.set_cons_succ, List.set_cons_zero]; rfl) ?_
        refine TL.nil ?_
        show TC _ _ _ _ _ _
        refine TC.ret ?_
        exact ⟨.inr rfl, [_], [_], _, rfl, by decide, rfl, by simp [refV, refC, valC], rfl, (by have h0 : bareLines x = out ++ [⟨#[111, 117, 116]⟩] := (by unfold bareLines; rw [if_pos hz, hpo]); rw [h0, List.map_append]; rfl)⟩
      · refine TC.skip ?_
        show TC _ _ _ _ _ _
        refine TC.seq ?_
        have hz : ¬ x.Outs.length = 0 := by simp at hb; simp [hb]
        -- region 8
        refine TC.region ?_
        refine TL.valE rfl (Val.move 1 rfl rfl) (by simp only [St.put, List.set_cons_succ, List.set_cons_zero]; rfl) ?_
        refine TL.valE rfl (by first | exact Val.field rfl rfl rfl | exact Val.fieldC rfl rfl rfl) (by simp only [St.put, List.set_cons_succ, List.set_cons_zero, List.getElem_toArray, List.getElem_cons_succ, List.getElem_cons_zero, Nat.zero_add, Nat.reduceAdd]; rfl) ?_
        refine TL.valE rfl (by first | exact Val.load rfl rfl rfl rfl rfl | exact Val.loadC rfl rfl rfl) (by simp only [St.put, List.set_cons_succ, List.set_cons_zero, valC]; rfl) ?_
        refine TL.callF (yes_none rfl) rfl rfl rfl rfl rfl rfl ((spec_NumsText_f x.Outs ho hol).k) (by repeat first | exact .nil | refine Snaps.cons (.ro _) ?_ | refine Snaps.cons (.aggRo rfl) ?_ | refine Snaps.cons (.cptr _) ?_ | refine Snaps.cons (.fn _) ?_ | refine Snaps.cons (.ownRef rfl (by first | assumption | exact w_IntS _ | exact w_IntSS _ | exact w_InsS _ | exact w_SlotS _ | exact w_GuestS _ | exact whole_map _ _ (fun w c hc => by simp only [D.row, List.mem_cons, List.not_mem_nil, or_false] at hc; subst hc; exact .v _))) ?_ | refine Snaps.cons (.aggR (by repeat first | exact .nil | refine SnapCs.cons (.ro _) ?_ | refine SnapCs.cons (.ref rfl (by first | assumption | exact w_IntS _ | exact w_IntSS _ | exact w_InsS _ | exact w_SlotS _ | exact w_GuestS _ | exact whole_map _ _ (fun w c hc => by simp only [D.row, List.mem_cons, List.not_mem_nil, or_false] at hc; subst hc; exact .v _))) ?_)) ?_) rfl (by simp only [St.put, List.set_cons_succ, List.set_cons_zero]; rfl) ?_
        refine TL.valE rfl (Val.addS rfl rfl rfl (by first | decide | omega | (simp [lit_size, ByteArray.size_append, strOfNums_size]; omega))) (by simp only [St.put, List.set_cons_succ, List.set_cons_zero]; rfl) ?_
        refine TL.opK rfl fun K hK => ?_
        refine OpT.buildP rfl rfl (xs := [(Go.Operand.tmp 33)]) rfl rfl rfl rfl (sz := 1) rfl rfl rfl (by decide) (by decide) ?_ -- 34
        simp only [St.fresh, St.kill, St.setRoot, St.put, St.renew, TS.kill, TV.kill, C.kill, Rt.kill, boxC, List.map_cons, List.map_nil, List.filter_cons, List.filter_nil, List.set_cons_succ, List.set_cons_zero, List.contains_cons, List.contains_nil, Nat.reduceBEq, Nat.reduceBNe, St.wrote, hitR, hitP, shapeOf, List.isPrefixOf, List.append_eq, Bool.and_true, Bool.true_and, Bool.and_false, Bool.false_and, List.nil_append, List.cons_append, beq_self_eq_true, bne_self_eq_false, Bool.or_false, Bool.or_true, Bool.not_true, Bool.not_false, Bool.false_eq_true, if_true, if_false, reduceIte, resT, valsD, refsD, refD, nextD, nextsD, cellsD, isSl, List.append_nil]
        refine hK _ ?_
        clear hK K
        refine TL.opK rfl fun K hK => ?_
        refine OpT.appendE rfl rfl rfl (sz := 1) rfl rfl rfl (by simp [isPlain, D.row, elD, cellD]) rfl rfl rfl rfl rfl rfl rfl (by simp; try omega) ?_ -- 35
        simp only [St.fresh, St.kill, St.setRoot, St.put, St.renew, TS.kill, TV.kill, C.kill, Rt.kill, boxC, List.map_cons, List.map_nil, List.filter_cons, List.filter_nil, List.set_cons_succ, List.set_cons_zero, List.contains_cons, List.contains_nil, Nat.reduceBEq, Nat.reduceBNe, St.wrote, hitR, hitP, shapeOf, List.isPrefixOf, List.append_eq, Bool.and_true, Bool.true_and, Bool.and_false, Bool.false_and, List.nil_append, List.cons_append, beq_self_eq_true, bne_self_eq_false, Bool.or_false, Bool.or_true, Bool.not_true, Bool.not_false, Bool.false_eq_true, if_true, if_false, reduceIte, resT, valsD, refsD, refD, nextD, nextsD, cellsD, isSl, List.append_nil]
        refine hK _ ?_
        clear hK K
        refine TL.valE rfl (Val.assign 1 rfl rfl) (by simp only [St.put, List.set_cons_succ, List.set_cons_zero]; rfl) ?_
        refine TL.nil ?_
        show TC _ _ _ _ _ _
        refine TC.ret ?_
        exact ⟨.inr rfl, [_], [_], _, rfl, by decide, rfl, by simp [refV, refC, valC], rfl, (by have h0 : bareLines x = out ++ [⟨#[111, 117, 116, 32]⟩ ++ numsText x.Outs] := (by unfold bareLines; rw [if_neg hz, hpo]); rw [h0, List.map_append]; rfl)⟩

-- loop.example/g00975/impl.BareLines: params ['impl.Bare = loop.example/g00975/impl.Bare'] results ['[]string'] ('arr', [('app', 'Go.ResultVar.tmp', ['2'])])
theorem impl_BareLines_f (x : VBare) (hg : ∀ g ∈ x.Guests, GuestI g) (ho : ∀ n ∈ x.Outs, I64 n) (hx : SmBare x) : FunW (Tab) Tryd.prog 16 [A (rBare x)] (RL 1 ((bareLines x).map fun s => .v (.string s))) := by
  refine FunW.of (Tab.keep) Tryd.func16 rfl (by simp [Tryd.ntmps16]) fun w g0 hW => ?_
  simp only [Tryd.ntmps16, List.length_cons, List.length_nil, Nat.reduceAdd, Nat.reduceSub, List.replicate, List.cons_append, List.nil_append]
  have hgl : x.Guests.length ≤ 1048576 := hx.2.1.1
  have hol : x.Outs.length ≤ 1048576 := hx.2.2
  have hot := numsText_all ho
  refine TC.seq ?_
  -- region 0
  refine TC.region ?_
  refine TL.opK rfl fun K hK => ?_
  first | refine OpT.box rfl rfl (z := 1) rfl (by simp) ?_ | refine OpT.boxAgg rfl rfl rfl ?_ -- 1
  simp only [St.fresh, St.kill, St.setRoot, St.put, St.renew, TS.kill, TV.kill, C.kill, Rt.kill, boxC, List.map_cons, List.map_nil, List.filter_cons, List.filter_nil, List.set_cons_succ, List.set_cons_zero, List.contains_cons, List.contains_nil, Nat.reduceBEq, Nat.reduceBNe, St.wrote, hitR, hitP, shapeOf, List.isPrefixOf, List.append_eq, Bool.and_true, Bool.true_and, Bool.and_false, Bool.false_and, List.nil_append, List.cons_append, beq_self_eq_true, bne_self_eq_false, Bool.or_false, Bool.or_true, Bool.not_true, Bool.not_false, Bool.false_eq_true, if_true, if_false, reduceIte, resT, valsD, refsD, refD, nextD, nextsD, cellsD, isSl, List.append_nil]
  refine hK _ ?_
  clear hK K
  refine TL.valE rfl (Val.assign 1 rfl rfl) (by simp only [St.put, List.set_cons_succ, List.set_cons_zero]; rfl) ?_
  refine TL.nil ?_
  show TC _ _ _ _ _ _
  refine TC.seq ?_
  -- region 1
  refine TC.region ?_
  refine TL.opK rfl fun K hK => ?_
  refine OpT.build0 (sz := 1) rfl rfl rfl rfl ?_ -- 7
  simp only [St.fresh, St.kill, St.setRoot, St.put, St.renew, TS.kill, TV.kill, C.kill, Rt.kill, boxC, List.map_cons, List.map_nil, List.filter_cons, List.filter_nil, List.set_cons_succ, List.set_cons_zero, List.contains_cons, List.contains_nil, Nat.reduceBEq, Nat.reduceBNe, St.wrote, hitR, hitP, shapeOf, List.isPrefixOf, List.append_eq, Bool.and_true, Bool.true_and, Bool.and_false, Bool.false_and, List.nil_append, List.cons_append, beq_self_eq_true, bne_self_eq_false, Bool.or_false, Bool.or_true, Bool.not_true, Bool.not_false, Bool.false_eq_true, if_true, if_false, reduceIte, resT, valsD, refsD, refD, nextD, nextsD, cellsD, isSl, List.append_nil]
  refine hK _ ?_
  clear hK K
  refine TL.valE rfl (Val.assign 1 rfl rfl) (by simp only [St.put, List.set_cons_succ, List.set_cons_zero]; rfl) ?_
  refine TL.nil ?_
  show TC _ _ _ _ _ _
  refine TC.seq ?_
  refine TC.seq ?_
  -- region 2
  refine TC.region ?_
  refine TL.valE rfl (by first | exact Val.field rfl rfl rfl | exact Val.fieldC rfl rfl rfl) (by simp only [St.put, List.set_cons_succ, List.set_cons_zero, List.getElem_toArray, List.getElem_cons_succ, List.getElem_cons_zero, Nat.zero_add, Nat.reduceAdd]; rfl) ?_
  refine TL.valE rfl (by first | exact Val.load rfl rfl rfl rfl rfl | exact Val.loadC rfl rfl rfl) (by simp only [St.put, List.set_cons_succ, List.set_cons_zero, valC]; rfl) ?_
  refine TL.valE rfl (by first | exact Val.len rfl rfl rfl rfl | exact Val.lenS rfl rfl rfl) (by simp only [St.put, List.set_cons_succ, List.set_cons_zero]; rfl) ?_
  refine TL.valE rfl (Val.move 1 rfl rfl) (by simp only [St.put, List.set_cons_succ, List.set_cons_zero]; rfl) ?_
  refine TL.nil ?_
  show TC _ _ _ _ _ _
  refine TC.block ?_
  refine TC.loop (fun μ st => ∃ (i : Nat) (out : List ByteArray), (i ≤ x.Guests.length ∧ out = (x.Guests.take i).map guestLine) ∧ μ = x.Guests.length - i ∧ Can st ⟨[.one .dead, .one (.ptr ⟨1, [], 0⟩), .one .dead, .one (.c (.ref ⟨3, [], 0⟩)), .one .dead, .one .dead, .one .dead, .one .dead, .one .dead, L 15 (x.Guests.map dGuest), I (x.Guests.map dGuest).length, I i, .one .dead, .one .dead, .one .dead, .one .dead, .one .dead, .one .dead, .one .dead, .one .dead, .one .dead, .one .dead, .one .dead, .one .dead, .one .dead, .one .dead, .one .dead, .one .dead, .one .dead, .one .dead, .one .dead, .one .dead, .one .dead, .one .dead, .one .dead], [(3, ⟨false, [.own (.sl 1 (out.map fun s => .v (.string s)))]⟩), (1, ⟨true, [.ro (.sl 1 (x.Memory.map dIntS)), .ro (.sl 15 (x.Guests.map dGuest)), .ro (.sl 1 (x.Outs.map dInt)), .own (.v (.int .i64 x.Pending))]⟩)]⟩) (x.Guests.length) ?_ fun μ st hI => ?_
  · refine ⟨0, [], ⟨by omega, rfl⟩, by simp, ?_⟩
    exact Can.name 7 3 (by simp only [St.name, nameS, nameV, nameC, nameR, List.map_cons, List.map_nil, Nat.reduceEqDiff, if_true, if_false, ne_eq, not_true, not_false, and_true, and_false, true_and, false_and, reduceIte]; rfl) (Can.to (by repeat first | exact LessT.nil | refine LessT.drop ?_ | refine LessT.keep ?_ | refine LessT.eq (by first | rfl | (simp; done) | (simp; omega) | simp_all) ?_) (.cons rfl rfl (.cons rfl rfl .nil)))
  · obtain ⟨i, out, hyp, rfl, hcan⟩ := hI
    refine TC.can hcan ?_
    clear hcan
    refine TC.seq ?_
    -- region 3
    refine TC.region ?_
    refine TL.valE rfl (Val.lss rfl rfl rfl) (by simp only [St.put, List.set_cons_succ, List.set_cons_zero]; rfl) ?_
    refine TL.nil ?_
    show TC _ _ _ _ _ _
    refine TC.seq ?_
    refine TC.cond rfl (fun hb => ?_) (fun hb => ?_)
    · refine TC.skip ?_
      show TC _ _ _ _ _ _
      refine TC.seq ?_
      refine TC.block ?_
      refine TC.seq ?_
      have hi : i < x.Guests.length := by simpa using hb
      obtain ⟨y, hy⟩ := at_of (xs := x.Guests) (k := i) hi
      have hym := List.mem_of_getElem? hy
      have hou : out.length ≤ 1048576 := by rw [hyp.2]; simp; omega
      -- region 4
      refine TC.region ?_
      refine TL.valE rfl (by exact Val.indexC (d := dGuest y) rfl rfl rfl rfl rfl (by omega) (by simp [hy])) (by simp only [St.put, List.set_cons_succ, List.set_cons_zero]; rfl) ?_
      refine TL.valE rfl (by first | exact Val.loadCAgg (n := 15) rfl rfl rfl rfl (Nat.le_of_ble_eq_true rfl) | exact Val.loadAgg (n := 15) rfl rfl rfl rfl (by simp [St.cellsAt, St.cellAt, St.root, valC]; rfl) rfl | exact Val.loadAgg (n := 15) rfl rfl rfl rfl rfl rfl) (by simp only [St.put, List.set_cons_succ, List.set_cons_zero, valC, dGuest, rGuest, D.row, List.take_succ_cons, List.take_zero, List.map_cons, List.map_nil]; rfl) ?_
      refine TL.opK rfl fun K hK => ?_
      refine OpT.alloc rfl rfl rfl rfl rfl rfl ?_ -- 5
      simp only [St.fresh, St.kill, St.setRoot, St.put, St.renew, TS.kill, TV.kill, C.kill, Rt.kill, boxC, List.map_cons, List.map_nil, List.filter_cons, List.filter_nil, List.set_cons_succ, List.set_cons_zero, List.contains_cons, List.contains_nil, Nat.reduceBEq, Nat.reduceBNe, St.wrote, hitR, hitP, shapeOf, List.isPrefixOf, List.append_eq, Bool.and_true, Bool.true_and, Bool.and_false, Bool.false_and, List.nil_append, List.cons_append, beq_self_eq_true, bne_self_eq_false, Bool.or_false, Bool.or_true, Bool.not_true, Bool.not_false, Bool.false_eq_true, if_true, if_false, reduceIte, resT, valsD, refsD, refD, nextD, nextsD, cellsD, isSl, List.append_nil]
      refine hK _ ?_
      clear hK K
      refine TL.opK rfl fun K hK => ?_
      refine OpT.storeAgg rfl rfl rfl rfl rfl rfl (by simp [St.store1, St.storeAll, St.cellAt, St.isMem, St.root, St.wrote, St.kill, St.setRoot, TS.kill, TV.kill, C.kill, Rt.kill, hitR, hitP, shapeOf, setRow, setAt, rowAt, D.row, D.reRow, List.isPrefixOf]; rfl) ?_ -- None
      simp only [St.fresh, St.kill, St.setRoot, St.put, St.renew, TS.kill, TV.kill, C.kill, Rt.kill, boxC, List.map_cons, List.map_nil, List.filter_cons, List.filter_nil, List.set_cons_succ, List.set_cons_zero, List.contains_cons, List.contains_nil, Nat.reduceBEq, Nat.reduceBNe, St.wrote, hitR, hitP, shapeOf, List.isPrefixOf, List.append_eq, Bool.and_true, Bool.true_and, Bool.and_false, Bool.false_and, List.nil_append, List.cons_append, beq_self_eq_true, bne_self_eq_false, Bool.or_false, Bool.or_true, Bool.not_true, Bool.not_false, Bool.false_eq_true, if_true, if_false, reduceIte, resT, valsD, refsD, refD, nextD, nextsD, cellsD, isSl, List.append_nil]
      refine hK _ ?_
      clear hK K
      refine TL.nil ?_
      show TC _ _ _ _ _ _
      -- region 5
      refine TC.region ?_
      refine TL.valE rfl (Val.move 1 rfl rfl) (by simp only [St.put, List.set_cons_succ, List.set_cons_zero]; rfl) ?_
      refine TL.valE rfl (by first | exact Val.loadCAgg (n := 15) rfl rfl rfl rfl (Nat.le_of_ble_eq_true rfl) | exact Val.loadAgg (n := 15) rfl rfl rfl rfl (by simp [St.cellsAt, St.cellAt, St.root, valC]; rfl) rfl | exact Val.loadAgg (n := 15) rfl rfl rfl rfl rfl rfl) (by simp only [St.put, List.set_cons_succ, List.set_cons_zero, valC, dGuest, rGuest, D.row, List.take_succ_cons, List.take_zero, List.map_cons, List.map_nil]; rfl) ?_
      refine TL.callF (yes_none rfl) rfl rfl rfl rfl rfl rfl ((impl_GuestLine_f y (hg y hym) (hx.2.1.2 y hym).2.2.2).k) (by repeat first | exact .nil | refine Snaps.cons (.ro _) ?_ | refine Snaps.cons (.aggRo rfl) ?_ | refine Snaps.cons (.cptr _) ?_ | refine Snaps.cons (.fn _) ?_ | refine Snaps.cons (.ownRef rfl (by first | assumption | exact w_IntS _ | exact w_IntSS _ | exact w_InsS _ | exact w_SlotS _ | exact w_GuestS _ | exact whole_map _ _ (fun w c hc => by simp only [D.row, List.mem_cons, List.not_mem_nil, or_false] at hc; subst hc; exact .v _))) ?_ | refine Snaps.cons (.aggR (by repeat first | exact .nil | refine SnapCs.cons (.ro _) ?_ | refine SnapCs.cons (.ref rfl (by first | assumption | exact w_IntS _ | exact w_IntSS _ | exact w_InsS _ | exact w_SlotS _ | exact w_GuestS _ | exact whole_map _ _ (fun w c hc => by simp only [D.row, List.mem_cons, List.not_mem_nil, or_false] at hc; subst hc; exact .v _))) ?_)) ?_) rfl (by simp only [St.put, List.set_cons_succ, List.set_cons_zero]; rfl) ?_
      refine TL.opK rfl fun K hK => ?_
      refine OpT.buildP rfl rfl (xs := [(Go.Operand.tmp 17)]) rfl rfl rfl rfl (sz := 1) rfl rfl rfl (by decide) (by decide) ?_ -- 18
      simp only [St.fresh, St.kill, St.setRoot, St.put, St.renew, TS.kill, TV.kill, C.kill, Rt.kill, boxC, List.map_cons, List.map_nil, List.filter_cons, List.filter_nil, List.set_cons_succ, List.set_cons_zero, List.contains_cons, List.contains_nil, Nat.reduceBEq, Nat.reduceBNe, St.wrote, hitR, hitP, shapeOf, List.isPrefixOf, List.append_eq, Bool.and_true, Bool.true_and, Bool.and_false, Bool.false_and, List.nil_append, List.cons_append, beq_self_eq_true, bne_self_eq_false, Bool.or_false, Bool.or_true, Bool.not_true, Bool.not_false, Bool.false_eq_true, if_true, if_false, reduceIte, resT, valsD, refsD, refD, nextD, nextsD, cellsD, isSl, List.append_nil]
      refine hK _ ?_
      clear hK K
      refine TL.opK rfl fun K hK => ?_
      refine OpT.appendE rfl rfl rfl (sz := 1) rfl rfl rfl (by simp [isPlain, D.row, elD, cellD]) rfl rfl rfl rfl rfl rfl rfl (by simp; try omega) ?_ -- 19
      simp only [St.fresh, St.kill, St.setRoot, St.put, St.renew, TS.kill, TV.kill, C.kill, Rt.kill, boxC, List.map_cons, List.map_nil, List.filter_cons, List.filter_nil, List.set_cons_succ, List.set_cons_zero, List.contains_cons, List.contains_nil, Nat.reduceBEq, Nat.reduceBNe, St.wrote, hitR, hitP, shapeOf, List.isPrefixOf, List.append_eq, Bool.and_true, Bool.true_and, Bool.and_false, Bool.false_and, List.nil_append, List.cons_append, beq_self_eq_true, bne_self_eq_false, Bool.or_false, Bool.or_true, Bool.not_true, Bool.not_false, Bool.false_eq_true, if_true, if_false, reduceIte, resT, valsD, refsD, refD, nextD, nextsD, cellsD, isSl, List.append_nil]
      refine hK _ ?_
      clear hK K
      refine TL.valE rfl (Val.assign 1 rfl rfl) (by simp only [St.put, List.set_cons_succ, List.set_cons_zero]; rfl) ?_
      refine TL.nil ?_
      show TC _ _ _ _ _ _
      -- region 6
      refine TC.region ?_
      refine TL.valE rfl (Val.add rfl rfl rfl (by first | omega | (simp only [List.length_map]; omega)) (by first | omega | (simp only [List.length_map]; omega))) (by simp only [St.put, List.set_cons_succ, List.set_cons_zero]; rfl) ?_
      refine TL.valE rfl (Val.move 1 rfl rfl) (by simp only [St.put, List.set_cons_succ, List.set_cons_zero]; rfl) ?_
      refine TL.nil ?_
      first | refine Seq.normal ⟨_, ?_, i + 1, out ++ [guestLine y], ?_, rfl, ?_⟩ | refine Seq.normal (Q := fun _ _ => True) ⟨_, ?_, i + 1, out ++ [guestLine y], ?_, rfl, ?_⟩
      · omega
      · exact ⟨by omega, by rw [hyp.2, List.take_add_one, hy]; simp⟩
      · exact Can.name 19 3 (by simp only [St.name, nameS, nameV, nameC, nameR, List.map_cons, List.map_nil, Nat.reduceEqDiff, if_true, if_false, ne_eq, not_true, not_false, and_true, and_false, true_and, false_and, reduceIte]; rfl) (Can.to (by repeat first | exact LessT.nil | refine LessT.drop ?_ | refine LessT.keep ?_ | refine LessT.eq (by first | rfl | (simp; done) | (simp; omega) | simp_all) ?_) (.cons rfl (by simp [elD, cellD]) (.cons rfl rfl .nil)))
    · refine TC.exit ?_
      -- exit 0
      show TC _ _ _ _ _ _
      refine TC.seq ?_
      have hie : x.Guests.length ≤ i := by simp at hb; omega
      have hou : out.length ≤ 1048576 := by rw [hyp.2]; simp; omega
      have hpo := hyp.2
      rw [List.take_of_length_le hie] at hpo
      -- region 7
      refine TC.region ?_
      refine TL.valE rfl (Val.assign 1 rfl rfl) (by simp only [St.put, List.set_cons_succ, List.set_cons_zero]; rfl) ?_
      refine TL.nil ?_
      show TC _ _ _ _ _ _
      refine TC.seq ?_
      refine TC.seq ?_
      -- region 8
      refine TC.region ?_
      refine TL.valE rfl (by first | exact Val.field rfl rfl rfl | exact Val.fieldC rfl rfl rfl) (by simp only [St.put, List.set_cons_succ, List.set_cons_zero, List.getElem_toArray, List.getElem_cons_succ, List.getElem_cons_zero, Nat.zero_add, Nat.reduceAdd]; rfl) ?_
      refine TL.valE rfl (by first | exact Val.load rfl rfl rfl rfl rfl | exact Val.loadC rfl rfl rfl) (by simp only [St.put, List.set_cons_succ, List.set_cons_zero, valC]; rfl) ?_
      refine TL.valE rfl (by first | exact Val.len rfl rfl rfl rfl | exact Val.lenS rfl rfl rfl) (by simp only [St.put, List.set_cons_succ, List.set_cons_zero]; rfl) ?_
      refine TL.valE rfl (Val.gtr rfl rfl rfl) (by simp only [St.put, List.set_cons_succ, List.set_cons_zero]; rfl) ?_
      refine TL.nil ?_
      show TC _ _ _ _ _ _
      refine TC.cond rfl (fun hb => ?_) (fun hb => ?_)
      · -- region 9
        refine TC.region ?_
        refine TL.valE rfl (Val.move 1 rfl rfl) (by simp only [St.put, List.set_cons_succ, List.set_cons_zero]; rfl) ?_
        refine TL.valE rfl (by first | exact Val.field rfl rfl rfl | exact Val.fieldC rfl rfl rfl) (by simp only [St.put, List.set_cons_succ, List.set_cons_zero, List.getElem_toArray, List.getElem_cons_succ, List.getElem_cons_zero, Nat.zero_add, Nat.reduceAdd]; rfl) ?_
        refine TL.valE rfl (by first | exact Val.load rfl rfl rfl rfl rfl | exact Val.loadC rfl rfl rfl) (by simp only [St.put, List.set_cons_succ, List.set_cons_zero, valC]; rfl) ?_
        refine TL.callF (yes_none rfl) rfl rfl rfl rfl rfl rfl ((impl_NumsText_f x.Outs ho hol).k) (by repeat first | exact .nil | refine Snaps.cons (.ro _) ?_ | refine Snaps.cons (.aggRo rfl) ?_ | refine Snaps.cons (.cptr _) ?_ | refine Snaps.cons (.fn _) ?_ | refine Snaps.cons (.ownRef rfl (by first | assumption | exact w_IntS _ | exact w_IntSS _ | exact w_InsS _ | exact w_SlotS _ | exact w_GuestS _ | exact whole_map _ _ (fun w c hc => by simp only [D.row, List.mem_cons, List.not_mem_nil, or_false] at hc; subst hc; exact .v _))) ?_ | refine Snaps.cons (.aggR (by repeat first | exact .nil | refine SnapCs.cons (.ro _) ?_ | refine SnapCs.cons (.ref rfl (by first | assumption | exact w_IntS _ | exact w_IntSS _ | exact w_InsS _ | exact w_SlotS _ | exact w_GuestS _ | exact whole_map _ _ (fun w c hc => by simp only [D.row, List.mem_cons, List.not_mem_nil, or_false] at hc; subst hc; exact .v _))) ?_)) ?_) rfl (by simp only [St.put, List.set_cons_succ, List.set_cons_zero]; rfl) ?_
        refine TL.valE rfl (Val.addS rfl rfl rfl (by first | decide | omega | (simp [lit_size, ByteArray.size_append, strOfNums_size]; omega))) (by simp only [St.put, List.set_cons_succ, List.set_cons_zero]; rfl) ?_
        refine TL.valE rfl (Val.addS rfl rfl rfl (by first | decide | omega | (simp [lit_size, ByteArray.size_append, strOfNums_size]; omega))) (by simp only [St.put, List.set_cons_succ, List.set_cons_zero]; rfl) ?_
        refine TL.valE rfl (Val.assign 1 rfl rfl) (by simp only [St.put, List.set_cons_succ, List.set_cons_zero]; rfl) ?_
        refine TL.nil ?_
        show TC _ _ _ _ _ _
        refine TC.seq ?_
        -- region 10
        refine TC.region ?_
        refine TL.valE rfl (Val.move 1 rfl rfl) (by simp only [St.put, List.set_cons_succ, List.set_cons_zero]; rfl) ?_
        refine TL.valE rfl (Val.move 1 rfl rfl) (by simp only [St.put, List.set_cons_succ, List.set_cons_zero]; rfl) ?_
        refine TL.opK rfl fun K hK => ?_
        refine OpT.buildP rfl rfl (xs := [(Go.Operand.tmp 32)]) rfl rfl rfl rfl (sz := 1) rfl rfl rfl (by decide) (by decide) ?_ -- 33
        simp only [St.fresh, St.kill, St.setRoot, St.put, St.renew, TS.kill, TV.kill, C.kill, Rt.kill, boxC, List.map_cons, List.map_nil, List.filter_cons, List.filter_nil, List.set_cons_succ, List.set_cons_zero, List.contains_cons, List.contains_nil, Nat.reduceBEq, Nat.reduceBNe, St.wrote, hitR, hitP, shapeOf, List.isPrefixOf, List.append_eq, Bool.and_true, Bool.true_and, Bool.and_false, Bool.false_and, List.nil_append, List.cons_append, beq_self_eq_true, bne_self_eq_false, Bool.or_false, Bool.or_true, Bool.not_true, Bool.not_false, Bool.false_eq_true, if_true, if_false, reduceIte, resT, valsD, refsD, refD, nextD, nextsD, cellsD, isSl, List.append_nil]
        refine hK _ ?_
        clear hK K
        refine TL.opK rfl fun K hK => ?_
        refine OpT.appendE rfl rfl rfl (sz := 1) rfl rfl rfl (by simp [isPlain, D.row, elD, cellD]) rfl rfl rfl rfl rfl rfl rfl (by simp; try omega) ?_ -- 34
        simp only [St.fresh, St.kill, St.setRoot, St.put, St.renew, TS.kill, TV.kill, C.kill, Rt.kill, boxC, List.map_cons, List.map_nil, List.filter_cons, List.filter_nil, List.set_cons_succ, List.set_cons_zero, List.contains_cons, List.contains_nil, Nat.reduceBEq, Nat.reduceBNe, St.wrote, hitR, hitP, shapeOf, List.isPrefixOf, List.append_eq, Bool.and_true, Bool.true_and, Bool.and_false, Bool.false_and, List.nil_append, List.cons_append, beq_self_eq_true, bne_self_eq_false, Bool.or_false, Bool.or_true, Bool.not_true, Bool.not_false, Bool.false_eq_true, if_true, if_false, reduceIte, resT, valsD, refsD, refD, nextD, nextsD, cellsD, isSl, List.append_nil]
        refine hK _ ?_
        clear hK K
        refine TL.valE rfl (Val.assign 1 rfl rfl) (by simp only [St.put, List.set_cons_succ, List.set_cons_zero]; rfl) ?_
        refine TL.nil ?_
        show TC _ _ _ _ _ _
        refine TC.ret ?_
        exact ⟨.inr rfl, [_], [_], _, rfl, by decide, rfl, by simp [refV, refC, valC], rfl, (by rcases Nat.eq_zero_or_pos x.Outs.length with hz | hz; (first | (exfalso; simp only [decide_eq_true_eq, decide_eq_false_iff_not, List.length_map] at hb; omega) | (have h0 : bareLines x = out ++ [⟨#[111, 117, 116]⟩] := (by unfold bareLines; rw [if_pos hz, hpo]); rw [h0, List.map_append]; rfl)); (first | (exfalso; simp only [decide_eq_true_eq, decide_eq_false_iff_not, List.length_map] at hb; omega) | (have h0 : bareLines x = out ++ [⟨#[111, 117, 116]⟩ ++ (⟨#[32]⟩ ++ numsText x.Outs)] := (by unfold bareLines; rw [if_neg (by omega), hpo, ← ByteArray.append_assoc, lit_app #[111, 117, 116] #[32]]; rfl); rw [h0, List.map_append]; rfl)))⟩
      · refine TC.skip ?_
        show TC _ _ _ _ _ _
        refine TC.seq ?_
        -- region 10
        refine TC.region ?_
        refine TL.valE rfl (Val.move 1 rfl rfl) (by simp only [St.put, List.set_cons_succ, List.set_cons_zero]; rfl) ?_
        refine TL.valE rfl (Val.move 1 rfl rfl) (by simp only [St.put, List.set_cons_succ, List.set_cons_zero]; rfl) ?_
        refine TL.opK rfl fun K hK => ?_
        refine OpT.buildP rfl rfl (xs := [(Go.Operand.tmp 32)]) rfl rfl rfl rfl (sz := 1) rfl rfl rfl (by decide) (by decide) ?_ -- 33
        simp only [St.fresh, St.kill, St.setRoot, St.put, St.renew, TS.kill, TV.kill, C.kill, Rt.kill, boxC, List.map_cons, List.map_nil, List.filter_cons, List.filter_nil, List.set_cons_succ, List.set_cons_zero, List.contains_cons, List.contains_nil, Nat.reduceBEq, Nat.reduceBNe, St.wrote, hitR, hitP, shapeOf, List.isPrefixOf, List.append_eq, Bool.and_true, Bool.true_and, Bool.and_false, Bool.false_and, List.nil_append, List.cons_append, beq_self_eq_true, bne_self_eq_false, Bool.or_false, Bool.or_true, Bool.not_true, Bool.not_false, Bool.false_eq_true, if_true, if_false, reduceIte, resT, valsD, refsD, refD, nextD, nextsD, cellsD, isSl, List.append_nil]
        refine hK _ ?_
        clear hK K
        refine TL.opK rfl fun K hK => ?_
        refine OpT.appendE rfl rfl rfl (sz := 1) rfl rfl rfl (by simp [isPlain, D.row, elD, cellD]) rfl rfl rfl rfl rfl rfl rfl (by simp; try omega) ?_ -- 34
        simp only [St.fresh, St.kill, St.setRoot, St.put, St.renew, TS.kill, TV.kill, C.kill, Rt.kill, boxC, List.map_cons, List.map_nil, List.filter_cons, List.filter_nil, List.set_cons_succ, List.set_cons_zero, List.contains_cons, List.contains_nil, Nat.reduceBEq, Nat.reduceBNe, St.wrote, hitR, hitP, shapeOf, List.isPrefixOf, List.append_eq, Bool.and_true, Bool.true_and, Bool.and_false, Bool.false_and, List.nil_append, List.cons_append, beq_self_eq_true, bne_self_eq_false, Bool.or_false, Bool.or_true, Bool.not_true, Bool.not_false, Bool.false_eq_true, if_true, if_false, reduceIte, resT, valsD, refsD, refD, nextD, nextsD, cellsD, isSl, List.append_nil]
        refine hK _ ?_
        clear hK K
        refine TL.valE rfl (Val.assign 1 rfl rfl) (by simp only [St.put, List.set_cons_succ, List.set_cons_zero]; rfl) ?_
        refine TL.nil ?_
        show TC _ _ _ _ _ _
        refine TC.ret ?_
        exact ⟨.inr rfl, [_], [_], _, rfl, by decide, rfl, by simp [refV, refC, valC], rfl, (by rcases Nat.eq_zero_or_pos x.Outs.length with hz | hz; (first | (exfalso; simp only [decide_eq_true_eq, decide_eq_false_iff_not, List.length_map] at hb; omega) | (have h0 : bareLines x = out ++ [⟨#[111, 117, 116]⟩] := (by unfold bareLines; rw [if_pos hz, hpo]); rw [h0, List.map_append]; rfl)); (first | (exfalso; simp only [decide_eq_true_eq, decide_eq_false_iff_not, List.length_map] at hb; omega) | (have h0 : bareLines x = out ++ [⟨#[111, 117, 116]⟩ ++ (⟨#[32]⟩ ++ numsText x.Outs)] := (by unfold bareLines; rw [if_neg (by omega), hpo, ← ByteArray.append_assoc, lit_app #[111, 117, 116] #[32]]; rfl); rw [h0, List.map_append]; rfl)))⟩
end Go.Proofs.YtdlpmcjpbcbbjaaDoor.T

