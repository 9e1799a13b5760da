/- Hosts taken over by the laws. PRINTED by gen.py out of spec_host.py. -/
import Derived.Test.YtldollgpolklpaaGreatT3p
import Derived.Test.YtldollgpolklpaaGreatZap
namespace Go.Proofs.YtldollgpolklpaaGreat.T
open Go
set_option linter.unusedVariables false
set_option linter.unusedSimpArgs false
set_option maxRecDepth 100000
set_option maxHeartbeats 4000000

theorem laws_toIntS_f (xs : List Int) (hmx : SmIntS xs) : Fun Tryz.prog 62 [L 1 (xs.map dInt)] (RL 1 (xs.map dInt)) := by
  refine Fun.of Tryz.func62 rfl (by simp [Tryz.ntmps62]) fun w g0 => ?_
  simp only [Tryz.ntmps62, List.length_cons, List.length_nil, Nat.reduceAdd, Nat.reduceSub, List.replicate, List.cons_append, List.nil_append]
  have hlen : xs.length ≤ 1048576 := hmx
  refine TC.seq ?_
  refine TC.region ?_
  refine TL.vE (Val.assign 1 rfl rfl) ?_
  refine TL.nil ?_
  show TC _ _ _ _ _ _
  refine TC.seq ?_
  refine TC.region ?_
  refine TL.vE (Val.move 1 rfl rfl) ?_
  refine TL.vE (by first | exact Val.len rfl rfl rfl rfl | exact Val.lenS rfl rfl rfl) ?_
  refine TL.opK rfl fun K hK => ?_
  refine OpT.makeE (d := (dInt 0)) rfl rfl rfl rfl rfl rfl rfl (sz := 1) rfl rfl rfl rfl rfl rfl rfl (by omega) (by simp; omega) ?_
  simp only [nrm, Nat.reduceBEq, Nat.reduceBNe, reduceIte]
  refine hK _ ?_
  clear hK K
  refine TL.vE (Val.assign 1 rfl rfl) ?_
  refine TL.nil ?_
  show TC _ _ _ _ _ _
  refine TC.seq ?_
  refine TC.seq ?_
  refine TC.region ?_
  refine TL.vE (Val.assign 1 rfl rfl) ?_
  refine TL.nil ?_
  show TC _ _ _ _ _ _
  refine TC.block ?_
  refine TC.loop (fun μ st => ∃ k : Nat, (k ≤ xs.length) ∧ μ = xs.length - k ∧ Can st ⟨[L 1 (xs.map dInt), .one .dead, .one .dead, .one (.c (.ref ⟨7, [], 0⟩)), I k, .one .dead, .one .dead, .one .dead, .one .dead, .one .dead, .one .dead, .one .dead, .one .dead, .one .dead, .one .dead, .one .dead, .one .dead, .one .dead, .one .dead, .one .dead, .one .dead, .one .dead], [(7, ⟨false, [.own (.sl 1 (fill dInt (dInt 0) xs k))]⟩)]⟩) (xs.length) ?_ fun μ st hI => ?_
  · refine ⟨0, by simp, by simp, ?_⟩
    exact Can.to (by repeat first | exact LessT.nil | refine LessT.drop ?_ | refine LessT.keep ?_ | refine LessT.eq (by simp) ?_) (.cons rfl (by simp [fill]) .nil)
  · obtain ⟨k, hyp, rfl, hcan⟩ := hI
    refine TC.can hcan ?_
    clear hcan
    refine TC.seq ?_
    refine TC.seq ?_
    refine TC.region ?_
    refine TL.vE (Val.move 1 rfl rfl) ?_
    refine TL.vE (Val.move 1 rfl rfl) ?_
    refine TL.vE (by first | exact Val.len rfl rfl rfl rfl | exact Val.lenS rfl rfl rfl) ?_
    refine TL.vE (Val.lss rfl rfl rfl) ?_
    refine TL.nil ?_
    show TC _ _ _ _ _ _
    refine TC.cond rfl (fun hb => ?_) (fun hb => ?_)
    · have hk11 := hb
      refine TC.skip ?_
      show TC _ _ _ _ _ _
      refine TC.seq ?_
      refine TC.block ?_
      have hk : k < xs.length := by simpa using hb
      obtain ⟨x, hx⟩ := at_of (xs := xs) (k := k) hk
      have hg := fill_get (f := dInt) (z := (dInt 0)) hk
      have hs := fill_set (f := dInt) (z := (dInt 0)) hx
      refine TC.region ?_
      refine TL.vE (Val.move 1 rfl rfl) ?_
      refine TL.vE (Val.move 1 rfl rfl) ?_
      refine TL.vE (Val.move 1 rfl rfl) ?_
      refine TL.vE (Val.move 1 rfl rfl) ?_
      refine TL.vE (by exact Val.indexC (d := dInt x) rfl rfl rfl rfl rfl (by omega) (by simp [hx])) ?_
      refine TL.ld ?_
      refine TL.vE (by exact Val.index rfl rfl rfl rfl rfl rfl (by omega) (by simp [fill_len]; omega)) ?_
      refine TL.opK rfl fun K hK => ?_
      refine OpT.store (z := 1) rfl rfl rfl rfl (by simp [St.store1, St.storeAll, St.cellAt, St.isMem, St.root, St.wrote, St.kill, St.setRoot, TS.kill, TV.kill, C.kill, Rt.kill, hitR, hitP, shapeOf, setRow, setAt, rowAt, D.row, D.reRow, List.isPrefixOf, hg]; rfl) rfl (by simp [St.store1, St.storeAll, St.cellAt, St.isMem, St.root, St.wrote, St.kill, St.setRoot, TS.kill, TV.kill, C.kill, Rt.kill, hitR, hitP, shapeOf, setRow, setAt, rowAt, D.row, D.reRow, List.isPrefixOf, hg, hs]; rfl) ?_
      simp only [nrm, Nat.reduceBEq, Nat.reduceBNe, reduceIte]
      refine hK _ ?_
      clear hK K
      refine TL.nil ?_
      show TC _ _ _ _ _ _
      refine TC.region ?_
      refine TL.vE (Val.move 1 rfl rfl) ?_
      refine TL.vE (Val.addO rfl rfl rfl) ?_
      refine TL.vE (Val.assign 1 rfl rfl) ?_
      refine TL.nil ?_
      first | refine Seq.normal ⟨_, ?_, k + 1, ?_, rfl, ?_⟩ | refine Seq.normal (Q := fun _ _ => True) ⟨_, ?_, k + 1, ?_, rfl, ?_⟩
      · omega
      · omega
      · exact Can.to (by repeat first | exact LessT.nil | refine LessT.drop ?_ | refine LessT.keep ?_ | refine LessT.eq (by simp) ?_) (by repeat first | exact .nil | refine .cons rfl rfl ?_)
    have hk11 := hb
    refine TC.exit ?_
    show TC _ _ _ _ _ _
    refine TC.seq ?_
    refine TC.region ?_
    refine TL.vE (Val.move 1 rfl rfl) ?_
    refine TL.vE (Val.assign 1 rfl rfl) ?_
    refine TL.nil ?_
    show TC _ _ _ _ _ _
    refine TC.ret ?_
    exact ⟨.inr rfl, [_], [_], _, rfl, by decide, rfl, by simp [refV, refC, valC, C.kill, hitR], rfl, by simp at hb; rw [← fill_all (f := dInt) (z := (dInt 0)) (k := k) (by omega)]; rfl⟩

theorem laws_toIntSS_f (xs : List (List Int)) (hmx : SmIntSS xs) : Fun Tryz.prog 38 [L 1 (xs.map dIntS)] (RL 1 (xs.map dIntS)) := by
  refine Fun.of Tryz.func38 rfl (by simp [Tryz.ntmps38]) fun w g0 => ?_
  simp only [Tryz.ntmps38, List.length_cons, List.length_nil, Nat.reduceAdd, Nat.reduceSub, List.replicate, List.cons_append, List.nil_append]
  have hlen : xs.length ≤ 1048576 := hmx.1
  refine TC.seq ?_
  refine TC.region ?_
  refine TL.vE (Val.assign 1 rfl rfl) ?_
  refine TL.nil ?_
  show TC _ _ _ _ _ _
  refine TC.seq ?_
  refine TC.region ?_
  refine TL.vE (Val.move 1 rfl rfl) ?_
  refine TL.vE (by first | exact Val.len rfl rfl rfl rfl | exact Val.lenS rfl rfl rfl) ?_
  refine TL.opK rfl fun K hK => ?_
  refine OpT.makeE (d := (dIntS [])) rfl rfl rfl rfl rfl rfl rfl (sz := 1) rfl rfl rfl rfl rfl rfl rfl (by omega) (by simp; omega) ?_
  simp only [nrm, Nat.reduceBEq, Nat.reduceBNe, reduceIte]
  refine hK _ ?_
  clear hK K
  refine TL.vE (Val.assign 1 rfl rfl) ?_
  refine TL.nil ?_
  show TC _ _ _ _ _ _
  refine TC.seq ?_
  refine TC.seq ?_
  refine TC.region ?_
  refine TL.vE (Val.assign 1 rfl rfl) ?_
  refine TL.nil ?_
  show TC _ _ _ _ _ _
  refine TC.block ?_
  refine TC.loop (fun μ st => ∃ k : Nat, (k ≤ xs.length) ∧ μ = xs.length - k ∧ Can st ⟨[L 1 (xs.map dIntS), .one .dead, .one .dead, .one (.c (.ref ⟨7, [], 0⟩)), I k, .one .dead, .one .dead, .one .dead, .one .dead, .one .dead, .one .dead, .one .dead, .one .dead, .one .dead, .one .dead, .one .dead, .one .dead, .one .dead, .one .dead, .one .dead, .one .dead, .one .dead, .one .dead], [(7, ⟨false, [.own (.sl 1 (fill dIntS (dIntS []) xs k))]⟩)]⟩) (xs.length) ?_ fun μ st hI => ?_
  · refine ⟨0, by simp, by simp, ?_⟩
    exact Can.to (by repeat first | exact LessT.nil | refine LessT.drop ?_ | refine LessT.keep ?_ | refine LessT.eq (by simp) ?_) (.cons rfl (by simp [fill]) .nil)
  · obtain ⟨k, hyp, rfl, hcan⟩ := hI
    refine TC.can hcan ?_
    clear hcan
    refine TC.seq ?_
    refine TC.seq ?_
    refine TC.region ?_
    refine TL.vE (Val.move 1 rfl rfl) ?_
    refine TL.vE (Val.move 1 rfl rfl) ?_
    refine TL.vE (by first | exact Val.len rfl rfl rfl rfl | exact Val.lenS rfl rfl rfl) ?_
    refine TL.vE (Val.lss rfl rfl rfl) ?_
    refine TL.nil ?_
    show TC _ _ _ _ _ _
    refine TC.cond rfl (fun hb => ?_) (fun hb => ?_)
    · have hk11 := hb
      refine TC.skip ?_
      show TC _ _ _ _ _ _
      refine TC.seq ?_
      refine TC.block ?_
      have hk : k < xs.length := by simpa using hb
      obtain ⟨x, hx⟩ := at_of (xs := xs) (k := k) hk
      have hsx : SmIntS x := hmx.2 x (List.mem_of_getElem? hx)
      have hg := fill_get (f := dIntS) (z := (dIntS [])) hk
      have hs := fill_set (f := dIntS) (z := (dIntS [])) hx
      refine TC.region ?_
      refine TL.vE (Val.move 1 rfl rfl) ?_
      refine TL.vE (Val.move 1 rfl rfl) ?_
      refine TL.vE (Val.move 1 rfl rfl) ?_
      refine TL.vE (Val.move 1 rfl rfl) ?_
      refine TL.vE (by exact Val.indexC (d := dIntS x) rfl rfl rfl rfl rfl (by omega) (by simp [hx])) ?_
      refine TL.ld ?_
      refine TL.opK rfl fun K hK => ?_
      refine OpT.callL rfl rfl rfl rfl rfl rfl ((laws_toIntS_f x hsx).k) (by repeat first | exact .nil | refine Snaps.cons (.ro _) ?_ | refine Snaps.cons (.aggRo rfl) ?_ | refine Snaps.cons (.cptr _) ?_ | refine Snaps.cons (.fn _) ?_ | refine Snaps.cons (.ownRef rfl (by first | assumption | exact w_IntS _ | exact w_IntSS _ | exact w_SlotS _ | exact w_BoolS _ | exact w_InsS _ | exact w_GuestS _ | exact w_KeptS _ | exact w_MonS _ | exact w_EntryS _ | exact w_BareS _)) ?_ | refine Snaps.cons (.aggR (by repeat first | exact .nil | refine SnapCs.cons (.ro _) ?_ | refine SnapCs.cons (.ref rfl (by first | assumption | exact w_IntS _ | exact w_IntSS _ | exact w_SlotS _ | exact w_BoolS _ | exact w_InsS _ | exact w_GuestS _ | exact w_KeptS _ | exact w_MonS _ | exact w_EntryS _ | exact w_BareS _)) ?_)) ?_) ?_
      simp only [nrm, Nat.reduceBEq, Nat.reduceBNe, reduceIte]
      refine hK _ ?_
      clear hK K
      refine TL.vE (by exact Val.index rfl rfl rfl rfl rfl rfl (by omega) (by simp [fill_len]; omega)) ?_
      refine TL.opK rfl fun K hK => ?_
      refine OpT.store (z := 1) rfl rfl rfl rfl (by simp [St.store1, St.storeAll, St.cellAt, St.isMem, St.root, St.wrote, St.kill, St.setRoot, TS.kill, TV.kill, C.kill, Rt.kill, hitR, hitP, shapeOf, setRow, setAt, rowAt, D.row, D.reRow, List.isPrefixOf, hg]; rfl) rfl (by simp [St.store1, St.storeAll, St.cellAt, St.isMem, St.root, St.wrote, St.kill, St.setRoot, TS.kill, TV.kill, C.kill, Rt.kill, hitR, hitP, shapeOf, setRow, setAt, rowAt, D.row, D.reRow, List.isPrefixOf, hg, hs]; rfl) ?_
      simp only [nrm, Nat.reduceBEq, Nat.reduceBNe, reduceIte]
      refine hK _ ?_
      clear hK K
      refine TL.nil ?_
      show TC _ _ _ _ _ _
      refine TC.region ?_
      refine TL.vE (Val.move 1 rfl rfl) ?_
      refine TL.vE (Val.addO rfl rfl rfl) ?_
      refine TL.vE (Val.assign 1 rfl rfl) ?_
      refine TL.nil ?_
      first | refine Seq.normal ⟨_, ?_, k + 1, ?_, rfl, ?_⟩ | refine Seq.normal (Q := fun _ _ => True) ⟨_, ?_, k + 1, ?_, rfl, ?_⟩
      · omega
      · omega
      · exact Can.to (by repeat first | exact LessT.nil | refine LessT.drop ?_ | refine LessT.keep ?_ | refine LessT.eq (by simp) ?_) (by repeat first | exact .nil | refine .cons rfl rfl ?_)
    have hk11 := hb
    refine TC.exit ?_
    show TC _ _ _ _ _ _
    refine TC.seq ?_
    refine TC.region ?_
    refine TL.vE (Val.move 1 rfl rfl) ?_
    refine TL.vE (Val.assign 1 rfl rfl) ?_
    refine TL.nil ?_
    show TC _ _ _ _ _ _
    refine TC.ret ?_
    exact ⟨.inr rfl, [_], [_], _, rfl, by decide, rfl, by simp [refV, refC, valC, C.kill, hitR], rfl, by simp at hb; rw [← fill_all (f := dIntS) (z := (dIntS [])) (k := k) (by omega)]; rfl⟩

theorem laws_toSlot_f (x : VSlot) : Fun Tryz.prog 139 [A (rSlot x)] (RP (A (rSlot x))) := by
  refine Fun.of Tryz.func139 rfl (by simp [Tryz.ntmps139]) fun w g0 => ?_
  simp only [Tryz.ntmps139, List.length_cons, List.length_nil, Nat.reduceAdd, Nat.reduceSub, List.replicate, List.cons_append, List.nil_append]
  refine TC.seq ?_
  refine TC.region ?_
  refine TL.opK rfl fun K hK => ?_
  first | refine OpT.box rfl rfl (z := 1) rfl (by simp) ?_ | refine OpT.boxAgg rfl rfl rfl ?_
  simp only [nrm, Nat.reduceBEq, Nat.reduceBNe, reduceIte]
  refine hK _ ?_
  clear hK K
  refine TL.opK rfl fun K hK => ?_
  refine OpT.alloc rfl rfl rfl rfl rfl rfl ?_
  simp only [nrm, Nat.reduceBEq, Nat.reduceBNe, reduceIte]
  refine hK _ ?_
  clear hK K
  refine TL.nil ?_
  show TC _ _ _ _ _ _
  refine TC.seq ?_
  refine TC.region ?_
  refine TL.opK rfl fun K hK => ?_
  refine OpT.alloc rfl rfl rfl rfl rfl rfl ?_
  simp only [nrm, Nat.reduceBEq, Nat.reduceBNe, reduceIte]
  refine hK _ ?_
  clear hK K
  refine TL.nil ?_
  show TC _ _ _ _ _ _
  refine TC.seq ?_
  refine TC.region ?_
  refine TL.fld ?_
  refine TL.ld ?_
  refine TL.fld ?_
  refine TL.opK rfl fun K hK => ?_
  refine OpT.store (z := 1) rfl rfl rfl rfl rfl rfl (by simp [St.store1, St.storeAll, St.cellAt, St.isMem, St.root, St.wrote, St.kill, St.setRoot, TS.kill, TV.kill, C.kill, Rt.kill, hitR, hitP, shapeOf, setRow, setAt, rowAt, D.row, D.reRow, List.isPrefixOf]; rfl) ?_ -- None
  simp only [nrm, Nat.reduceBEq, Nat.reduceBNe, reduceIte]
  refine hK _ ?_
  clear hK K
  refine TL.nil ?_
  show TC _ _ _ _ _ _
  refine TC.seq ?_
  refine TC.region ?_
  refine TL.fld ?_
  refine TL.ld ?_
  refine TL.fld ?_
  refine TL.opK rfl fun K hK => ?_
  refine OpT.store (z := 1) rfl rfl rfl rfl rfl rfl (by simp [St.store1, St.storeAll, St.cellAt, St.isMem, St.root, St.wrote, St.kill, St.setRoot, TS.kill, TV.kill, C.kill, Rt.kill, hitR, hitP, shapeOf, setRow, setAt, rowAt, D.row, D.reRow, List.isPrefixOf]; rfl) ?_ -- None
  simp only [nrm, Nat.reduceBEq, Nat.reduceBNe, reduceIte]
  refine hK _ ?_
  clear hK K
  refine TL.nil ?_
  show TC _ _ _ _ _ _
  refine TC.seq ?_
  refine TC.region ?_
  refine TL.valE rfl (by first | exact Val.loadCAgg (n := 2) rfl rfl rfl rfl (Nat.le_of_ble_eq_true rfl) | exact Val.loadAgg (n := 2) rfl rfl rfl rfl (by simp [St.cellsAt, St.cellAt, St.root, valC]; rfl) rfl | exact Val.loadAgg (n := 2) rfl rfl rfl rfl rfl rfl) (by simp only [St.put, List.set_cons_succ, List.set_cons_zero, valC, dSlot, rSlot, D.row, List.take_succ_cons, List.take_zero, List.map_cons, List.map_nil]; rfl) ?_
  refine TL.opK rfl fun K hK => ?_
  refine OpT.storeAgg rfl rfl rfl rfl rfl rfl (by simp [St.store1, St.storeAll, St.cellAt, St.isMem, St.root, St.wrote, St.kill, St.setRoot, TS.kill, TV.kill, C.kill, Rt.kill, hitR, hitP, shapeOf, setRow, setAt, rowAt, D.row, D.reRow, List.isPrefixOf]; rfl) ?_ -- None
  simp only [nrm, Nat.reduceBEq, Nat.reduceBNe, reduceIte]
  refine hK _ ?_
  clear hK K
  refine TL.nil ?_
  show TC _ _ _ _ _ _
  refine TC.ret ?_
  exact ⟨.inr rfl, [_], [_], _, rfl, by decide, rfl, by simp [refV, refC, valC, C.kill, hitR], rfl, rfl⟩

theorem laws_toSlotS_f (xs : List VSlot) (hmx : SmSlotS xs) : Fun Tryz.prog 82 [L 2 (xs.map dSlot)] (RL 2 (xs.map dSlot)) := by
  refine Fun.of Tryz.func82 rfl (by simp [Tryz.ntmps82]) fun w g0 => ?_
  simp only [Tryz.ntmps82, List.length_cons, List.length_nil, Nat.reduceAdd, Nat.reduceSub, List.replicate, List.cons_append, List.nil_append]
  have hlen : xs.length ≤ 1048576 := hmx
  refine TC.seq ?_
  refine TC.region ?_
  refine TL.vE (Val.assign 1 rfl rfl) ?_
  refine TL.nil ?_
  show TC _ _ _ _ _ _
  refine TC.seq ?_
  refine TC.region ?_
  refine TL.vE (Val.move 1 rfl rfl) ?_
  refine TL.vE (by first | exact Val.len rfl rfl rfl rfl | exact Val.lenS rfl rfl rfl) ?_
  refine TL.opK rfl fun K hK => ?_
  refine OpT.makeE (d := (dSlot (VSlot.mk 0 0))) rfl rfl rfl rfl rfl rfl rfl (sz := 2) rfl rfl rfl rfl rfl rfl rfl (by omega) (by simp; omega) ?_
  simp only [nrm, Nat.reduceBEq, Nat.reduceBNe, reduceIte]
  refine hK _ ?_
  clear hK K
  refine TL.vE (Val.assign 1 rfl rfl) ?_
  refine TL.nil ?_
  show TC _ _ _ _ _ _
  refine TC.seq ?_
  refine TC.seq ?_
  refine TC.region ?_
  refine TL.vE (Val.assign 1 rfl rfl) ?_
  refine TL.nil ?_
  show TC _ _ _ _ _ _
  refine TC.block ?_
  refine TC.loop (fun μ st => ∃ k : Nat, (k ≤ xs.length) ∧ μ = xs.length - k ∧ Can st ⟨[L 2 (xs.map dSlot), .one .dead, .one .dead, .one (.c (.ref ⟨7, [], 0⟩)), I k, .one .dead, .one .dead, .one .dead, .one .dead, .one .dead, .one .dead, .one .dead, .one .dead, .one .dead, .one .dead, .one .dead, .one .dead, .one .dead, .one .dead, .one .dead, .one .dead, .one .dead, .one .dead], [(7, ⟨false, [.own (.sl 2 (fill dSlot (dSlot (VSlot.mk 0 0)) xs k))]⟩)]⟩) (xs.length) ?_ fun μ st hI => ?_
  · refine ⟨0, by simp, by simp, ?_⟩
    exact Can.to (by repeat first | exact LessT.nil | refine LessT.drop ?_ | refine LessT.keep ?_ | refine LessT.eq (by simp) ?_) (.cons rfl (by simp [fill]) .nil)
  · obtain ⟨k, hyp, rfl, hcan⟩ := hI
    refine TC.can hcan ?_
    clear hcan
    refine TC.seq ?_
    refine TC.seq ?_
    refine TC.region ?_
    refine TL.vE (Val.move 1 rfl rfl) ?_
    refine TL.vE (Val.move 1 rfl rfl) ?_
    refine TL.vE (by first | exact Val.len rfl rfl rfl rfl | exact Val.lenS rfl rfl rfl) ?_
    refine TL.vE (Val.lss rfl rfl rfl) ?_
    refine TL.nil ?_
    show TC _ _ _ _ _ _
    refine TC.cond rfl (fun hb => ?_) (fun hb => ?_)
    · have hk11 := hb
      refine TC.skip ?_
      show TC _ _ _ _ _ _
      refine TC.seq ?_
      refine TC.block ?_
      have hk : k < xs.length := by simpa using hb
      obtain ⟨x, hx⟩ := at_of (xs := xs) (k := k) hk
      have hg := fill_get (f := dSlot) (z := (dSlot (VSlot.mk 0 0))) hk
      have hs := fill_set (f := dSlot) (z := (dSlot (VSlot.mk 0 0))) hx
      refine TC.region ?_
      refine TL.vE (Val.move 1 rfl rfl) ?_
      refine TL.vE (Val.move 1 rfl rfl) ?_
      refine TL.vE (Val.move 1 rfl rfl) ?_
      refine TL.vE (Val.move 1 rfl rfl) ?_
      refine TL.vE (by exact Val.indexC (d := dSlot x) rfl rfl rfl rfl rfl (by omega) (by simp [hx])) ?_
      refine TL.valE rfl (by first | exact Val.loadCAgg (n := 2) rfl rfl rfl rfl (Nat.le_of_ble_eq_true rfl) | exact Val.loadAgg (n := 2) rfl rfl rfl rfl (by simp [St.cellsAt, St.cellAt, St.root, valC]; rfl) rfl | exact Val.loadAgg (n := 2) rfl rfl rfl rfl rfl rfl) (by simp only [St.put, List.set_cons_succ, List.set_cons_zero, valC, dSlot, rSlot, D.row, List.take_succ_cons, List.take_zero, List.map_cons, List.map_nil]; rfl) ?_
      refine TL.callF (yes_none rfl) rfl rfl rfl rfl rfl rfl ((laws_toSlot_f x).k) (by repeat first | exact .nil | refine Snaps.cons (.ro _) ?_ | refine Snaps.cons (.aggRo rfl) ?_ | refine Snaps.cons (.cptr _) ?_ | refine Snaps.cons (.fn _) ?_ | refine Snaps.cons (.ownRef rfl (by first | assumption | exact w_IntS _ | exact w_IntSS _ | exact w_SlotS _ | exact w_BoolS _ | exact w_InsS _ | exact w_GuestS _ | exact w_KeptS _ | exact w_MonS _ | exact w_EntryS _ | exact w_BareS _)) ?_ | refine Snaps.cons (.aggR (by repeat first | exact .nil | refine SnapCs.cons (.ro _) ?_ | refine SnapCs.cons (.ref rfl (by first | assumption | exact w_IntS _ | exact w_IntSS _ | exact w_SlotS _ | exact w_BoolS _ | exact w_InsS _ | exact w_GuestS _ | exact w_KeptS _ | exact w_MonS _ | exact w_EntryS _ | exact w_BareS _)) ?_)) ?_) rfl (by simp only [nput]; rfl) ?_
      refine TL.vE (by exact Val.index rfl rfl rfl rfl rfl rfl (by omega) (by simp [fill_len]; omega)) ?_
      refine TL.opK rfl fun K hK => ?_
      refine OpT.storeAgg rfl rfl rfl rfl rfl rfl (by simp [St.store1, St.storeAll, St.cellAt, St.isMem, St.root, St.wrote, St.kill, St.setRoot, TS.kill, TV.kill, C.kill, Rt.kill, hitR, hitP, shapeOf, setRow, setAt, rowAt, D.row, D.reRow, List.isPrefixOf, List.getElem?_set_self', List.set_set, hg, hs]; rfl) ?_
      simp only [nrm, Nat.reduceBEq, Nat.reduceBNe, reduceIte]
      refine hK _ ?_
      clear hK K
      refine TL.nil ?_
      show TC _ _ _ _ _ _
      refine TC.region ?_
      refine TL.vE (Val.move 1 rfl rfl) ?_
      refine TL.vE (Val.addO rfl rfl rfl) ?_
      refine TL.vE (Val.assign 1 rfl rfl) ?_
      refine TL.nil ?_
      first | refine Seq.normal ⟨_, ?_, k + 1, ?_, rfl, ?_⟩ | refine Seq.normal (Q := fun _ _ => True) ⟨_, ?_, k + 1, ?_, rfl, ?_⟩
      · omega
      · omega
      · exact Can.to (by repeat first | exact LessT.nil | refine LessT.drop ?_ | refine LessT.keep ?_ | refine LessT.eq (by simp) ?_) (by repeat first | exact .nil | refine .cons rfl rfl ?_)
    have hk11 := hb
    refine TC.exit ?_
    show TC _ _ _ _ _ _
    refine TC.seq ?_
    refine TC.region ?_
    refine TL.vE (Val.move 1 rfl rfl) ?_
    refine TL.vE (Val.assign 1 rfl rfl) ?_
    refine TL.nil ?_
    show TC _ _ _ _ _ _
    refine TC.ret ?_
    exact ⟨.inr rfl, [_], [_], _, rfl, by decide, rfl, by simp [refV, refC, valC, C.kill, hitR], rfl, by simp at hb; rw [← fill_all (f := dSlot) (z := (dSlot (VSlot.mk 0 0))) (k := k) (by omega)]; rfl⟩

theorem laws_toBoolS_f (xs : List Bool) (hmx : SmBoolS xs) : Fun Tryz.prog 83 [L 1 (xs.map dBool)] (RL 1 (xs.map dBool)) := by
  refine Fun.of Tryz.func83 rfl (by simp [Tryz.ntmps83]) fun w g0 => ?_
  simp only [Tryz.ntmps83, List.length_cons, List.length_nil, Nat.reduceAdd, Nat.reduceSub, List.replicate, List.cons_append, List.nil_append]
  have hlen : xs.length ≤ 1048576 := hmx
  refine TC.seq ?_
  refine TC.region ?_
  refine TL.vE (Val.assign 1 rfl rfl) ?_
  refine TL.nil ?_
  show TC _ _ _ _ _ _
  refine TC.seq ?_
  refine TC.region ?_
  refine TL.vE (Val.move 1 rfl rfl) ?_
  refine TL.vE (by first | exact Val.len rfl rfl rfl rfl | exact Val.lenS rfl rfl rfl) ?_
  refine TL.opK rfl fun K hK => ?_
  refine OpT.makeE (d := (dBool false)) rfl rfl rfl rfl rfl rfl rfl (sz := 1) rfl rfl rfl rfl rfl rfl rfl (by omega) (by simp; omega) ?_
  simp only [nrm, Nat.reduceBEq, Nat.reduceBNe, reduceIte]
  refine hK _ ?_
  clear hK K
  refine TL.vE (Val.assign 1 rfl rfl) ?_
  refine TL.nil ?_
  show TC _ _ _ _ _ _
  refine TC.seq ?_
  refine TC.seq ?_
  refine TC.region ?_
  refine TL.vE (Val.assign 1 rfl rfl) ?_
  refine TL.nil ?_
  show TC _ _ _ _ _ _
  refine TC.block ?_
  refine TC.loop (fun μ st => ∃ k : Nat, (k ≤ xs.length) ∧ μ = xs.length - k ∧ Can st ⟨[L 1 (xs.map dBool), .one .dead, .one .dead, .one (.c (.ref ⟨7, [], 0⟩)), I k, .one .dead, .one .dead, .one .dead, .one .dead, .one .dead, .one .dead, .one .dead, .one .dead, .one .dead, .one .dead, .one .dead, .one .dead, .one .dead, .one .dead, .one .dead, .one .dead, .one .dead], [(7, ⟨false, [.own (.sl 1 (fill dBool (dBool false) xs k))]⟩)]⟩) (xs.length) ?_ fun μ st hI => ?_
  · refine ⟨0, by simp, by simp, ?_⟩
    exact Can.to (by repeat first | exact LessT.nil | refine LessT.drop ?_ | refine LessT.keep ?_ | refine LessT.eq (by simp) ?_) (.cons rfl (by simp [fill]) .nil)
  · obtain ⟨k, hyp, rfl, hcan⟩ := hI
    refine TC.can hcan ?_
    clear hcan
    refine TC.seq ?_
    refine TC.seq ?_
    refine TC.region ?_
    refine TL.vE (Val.move 1 rfl rfl) ?_
    refine TL.vE (Val.move 1 rfl rfl) ?_
    refine TL.vE (by first | exact Val.len rfl rfl rfl rfl | exact Val.lenS rfl rfl rfl) ?_
    refine TL.vE (Val.lss rfl rfl rfl) ?_
    refine TL.nil ?_
    show TC _ _ _ _ _ _
    refine TC.cond rfl (fun hb => ?_) (fun hb => ?_)
    · have hk11 := hb
      refine TC.skip ?_
      show TC _ _ _ _ _ _
      refine TC.seq ?_
      refine TC.block ?_
      have hk : k < xs.length := by simpa using hb
      obtain ⟨x, hx⟩ := at_of (xs := xs) (k := k) hk
      have hg := fill_get (f := dBool) (z := (dBool false)) hk
      have hs := fill_set (f := dBool) (z := (dBool false)) hx
      refine TC.region ?_
      refine TL.vE (Val.move 1 rfl rfl) ?_
      refine TL.vE (Val.move 1 rfl rfl) ?_
      refine TL.vE (Val.move 1 rfl rfl) ?_
      refine TL.vE (Val.move 1 rfl rfl) ?_
      refine TL.vE (by exact Val.indexC (d := dBool x) rfl rfl rfl rfl rfl (by omega) (by simp [hx])) ?_
      refine TL.ld ?_
      refine TL.vE (by exact Val.index rfl rfl rfl rfl rfl rfl (by omega) (by simp [fill_len]; omega)) ?_
      refine TL.opK rfl fun K hK => ?_
      refine OpT.store (z := 1) rfl rfl rfl rfl (by simp [St.store1, St.storeAll, St.cellAt, St.isMem, St.root, St.wrote, St.kill, St.setRoot, TS.kill, TV.kill, C.kill, Rt.kill, hitR, hitP, shapeOf, setRow, setAt, rowAt, D.row, D.reRow, List.isPrefixOf, hg]; rfl) rfl (by simp [St.store1, St.storeAll, St.cellAt, St.isMem, St.root, St.wrote, St.kill, St.setRoot, TS.kill, TV.kill, C.kill, Rt.kill, hitR, hitP, shapeOf, setRow, setAt, rowAt, D.row, D.reRow, List.isPrefixOf, hg, hs]; rfl) ?_
      simp only [nrm, Nat.reduceBEq, Nat.reduceBNe, reduceIte]
      refine hK _ ?_
      clear hK K
      refine TL.nil ?_
      show TC _ _ _ _ _ _
      refine TC.region ?_
      refine TL.vE (Val.move 1 rfl rfl) ?_
      refine TL.vE (Val.addO rfl rfl rfl) ?_
      refine TL.vE (Val.assign 1 rfl rfl) ?_
      refine TL.nil ?_
      first | refine Seq.normal ⟨_, ?_, k + 1, ?_, rfl, ?_⟩ | refine Seq.normal (Q := fun _ _ => True) ⟨_, ?_, k + 1, ?_, rfl, ?_⟩
      · omega
      · omega
      · exact Can.to (by repeat first | exact LessT.nil | refine LessT.drop ?_ | refine LessT.keep ?_ | refine LessT.eq (by simp) ?_) (by repeat first | exact .nil | refine .cons rfl rfl ?_)
    have hk11 := hb
    refine TC.exit ?_
    show TC _ _ _ _ _ _
    refine TC.seq ?_
    refine TC.region ?_
    refine TL.vE (Val.move 1 rfl rfl) ?_
    refine TL.vE (Val.assign 1 rfl rfl) ?_
    refine TL.nil ?_
    show TC _ _ _ _ _ _
    refine TC.ret ?_
    exact ⟨.inr rfl, [_], [_], _, rfl, by decide, rfl, by simp [refV, refC, valC, C.kill, hitR], rfl, by simp at hb; rw [← fill_all (f := dBool) (z := (dBool false)) (k := k) (by omega)]; rfl⟩

theorem laws_toIns_f (x : VIns) : Fun Tryz.prog 185 [A (rIns x)] (RP (A (rIns x))) := by
  refine Fun.of Tryz.func185 rfl (by simp [Tryz.ntmps185]) fun w g0 => ?_
  simp only [Tryz.ntmps185, List.length_cons, List.length_nil, Nat.reduceAdd, Nat.reduceSub, List.replicate, List.cons_append, List.nil_append]
  refine TC.seq ?_
  refine TC.region ?_
  refine TL.opK rfl fun K hK => ?_
  first | refine OpT.box rfl rfl (z := 1) rfl (by simp) ?_ | refine OpT.boxAgg rfl rfl rfl ?_
  simp only [nrm, Nat.reduceBEq, Nat.reduceBNe, reduceIte]
  refine hK _ ?_
  clear hK K
  refine TL.opK rfl fun K hK => ?_
  refine OpT.alloc rfl rfl rfl rfl rfl rfl ?_
  simp only [nrm, Nat.reduceBEq, Nat.reduceBNe, reduceIte]
  refine hK _ ?_
  clear hK K
  refine TL.nil ?_
  show TC _ _ _ _ _ _
  refine TC.seq ?_
  refine TC.region ?_
  refine TL.opK rfl fun K hK => ?_
  refine OpT.alloc rfl rfl rfl rfl rfl rfl ?_
  simp only [nrm, Nat.reduceBEq, Nat.reduceBNe, reduceIte]
  refine hK _ ?_
  clear hK K
  refine TL.nil ?_
  show TC _ _ _ _ _ _
  refine TC.seq ?_
  refine TC.region ?_
  refine TL.fld ?_
  refine TL.ld ?_
  refine TL.fld ?_
  refine TL.opK rfl fun K hK => ?_
  refine OpT.store (z := 1) rfl rfl rfl rfl rfl rfl (by simp [St.store1, St.storeAll, St.cellAt, St.isMem, St.root, St.wrote, St.kill, St.setRoot, TS.kill, TV.kill, C.kill, Rt.kill, hitR, hitP, shapeOf, setRow, setAt, rowAt, D.row, D.reRow, List.isPrefixOf]; rfl) ?_ -- None
  simp only [nrm, Nat.reduceBEq, Nat.reduceBNe, reduceIte]
  refine hK _ ?_
  clear hK K
  refine TL.nil ?_
  show TC _ _ _ _ _ _
  refine TC.seq ?_
  refine TC.region ?_
  refine TL.fld ?_
  refine TL.ld ?_
  refine TL.fld ?_
  refine TL.opK rfl fun K hK => ?_
  refine OpT.store (z := 1) rfl rfl rfl rfl rfl rfl (by simp [St.store1, St.storeAll, St.cellAt, St.isMem, St.root, St.wrote, St.kill, St.setRoot, TS.kill, TV.kill, C.kill, Rt.kill, hitR, hitP, shapeOf, setRow, setAt, rowAt, D.row, D.reRow, List.isPrefixOf]; rfl) ?_ -- None
  simp only [nrm, Nat.reduceBEq, Nat.reduceBNe, reduceIte]
  refine hK _ ?_
  clear hK K
  refine TL.nil ?_
  show TC _ _ _ _ _ _
  refine TC.seq ?_
  refine TC.region ?_
  refine TL.valE rfl (by first | exact Val.loadCAgg (n := 2) rfl rfl rfl rfl (Nat.le_of_ble_eq_true rfl) | exact Val.loadAgg (n := 2) rfl rfl rfl rfl (by simp [St.cellsAt, St.cellAt, St.root, valC]; rfl) rfl | exact Val.loadAgg (n := 2) rfl rfl rfl rfl rfl rfl) (by simp only [St.put, List.set_cons_succ, List.set_cons_zero, valC, dIns, rIns, D.row, List.take_succ_cons, List.take_zero, List.map_cons, List.map_nil]; rfl) ?_
  refine TL.opK rfl fun K hK => ?_
  refine OpT.storeAgg rfl rfl rfl rfl rfl rfl (by simp [St.store1, St.storeAll, St.cellAt, St.isMem, St.root, St.wrote, St.kill, St.setRoot, TS.kill, TV.kill, C.kill, Rt.kill, hitR, hitP, shapeOf, setRow, setAt, rowAt, D.row, D.reRow, List.isPrefixOf]; rfl) ?_ -- None
  simp only [nrm, Nat.reduceBEq, Nat.reduceBNe, reduceIte]
  refine hK _ ?_
  clear hK K
  refine TL.nil ?_
  show TC _ _ _ _ _ _
  refine TC.ret ?_
  exact ⟨.inr rfl, [_], [_], _, rfl, by decide, rfl, by simp [refV, refC, valC, C.kill, hitR], rfl, rfl⟩

theorem laws_toInsS_f (xs : List VIns) (hmx : SmInsS xs) : Fun Tryz.prog 171 [L 2 (xs.map dIns)] (RL 2 (xs.map dIns)) := by
  refine Fun.of Tryz.func171 rfl (by simp [Tryz.ntmps171]) fun w g0 => ?_
  simp only [Tryz.ntmps171, List.length_cons, List.length_nil, Nat.reduceAdd, Nat.reduceSub, List.replicate, List.cons_append, List.nil_append]
  have hlen : xs.length ≤ 1048576 := hmx
  refine TC.seq ?_
  refine TC.region ?_
  refine TL.vE (Val.assign 1 rfl rfl) ?_
  refine TL.nil ?_
  show TC _ _ _ _ _ _
  refine TC.seq ?_
  refine TC.region ?_
  refine TL.vE (Val.move 1 rfl rfl) ?_
  refine TL.vE (by first | exact Val.len rfl rfl rfl rfl | exact Val.lenS rfl rfl rfl) ?_
  refine TL.opK rfl fun K hK => ?_
  refine OpT.makeE (d := (dIns (VIns.mk 0 0))) rfl rfl rfl rfl rfl rfl rfl (sz := 2) rfl rfl rfl rfl rfl rfl rfl (by omega) (by simp; omega) ?_
  simp only [nrm, Nat.reduceBEq, Nat.reduceBNe, reduceIte]
  refine hK _ ?_
  clear hK K
  refine TL.vE (Val.assign 1 rfl rfl) ?_
  refine TL.nil ?_
  show TC _ _ _ _ _ _
  refine TC.seq ?_
  refine TC.seq ?_
  refine TC.region ?_
  refine TL.vE (Val.assign 1 rfl rfl) ?_
  refine TL.nil ?_
  show TC _ _ _ _ _ _
  refine TC.block ?_
  refine TC.loop (fun μ st => ∃ k : Nat, (k ≤ xs.length) ∧ μ = xs.length - k ∧ Can st ⟨[L 2 (xs.map dIns), .one .dead, .one .dead, .one (.c (.ref ⟨7, [], 0⟩)), I k, .one .dead, .one .dead, .one .dead, .one .dead, .one .dead, .one .dead, .one .dead, .one .dead, .one .dead, .one .dead, .one .dead, .one .dead, .one .dead, .one .dead, .one .dead, .one .dead, .one .dead, .one .dead], [(7, ⟨false, [.own (.sl 2 (fill dIns (dIns (VIns.mk 0 0)) xs k))]⟩)]⟩) (xs.length) ?_ fun μ st hI => ?_
  · refine ⟨0, by simp, by simp, ?_⟩
    exact Can.to (by repeat first | exact LessT.nil | refine LessT.drop ?_ | refine LessT.keep ?_ | refine LessT.eq (by simp) ?_) (.cons rfl (by simp [fill]) .nil)
  · obtain ⟨k, hyp, rfl, hcan⟩ := hI
    refine TC.can hcan ?_
    clear hcan
    refine TC.seq ?_
    refine TC.seq ?_
    refine TC.region ?_
    refine TL.vE (Val.move 1 rfl rfl) ?_
    refine TL.vE (Val.move 1 rfl rfl) ?_
    refine TL.vE (by first | exact Val.len rfl rfl rfl rfl | exact Val.lenS rfl rfl rfl) ?_
    refine TL.vE (Val.lss rfl rfl rfl) ?_
    refine TL.nil ?_
    show TC _ _ _ _ _ _
    refine TC.cond rfl (fun hb => ?_) (fun hb => ?_)
    · have hk11 := hb
      refine TC.skip ?_
      show TC _ _ _ _ _ _
      refine TC.seq ?_
      refine TC.block ?_
      have hk : k < xs.length := by simpa using hb
      obtain ⟨x, hx⟩ := at_of (xs := xs) (k := k) hk
      have hg := fill_get (f := dIns) (z := (dIns (VIns.mk 0 0))) hk
      have hs := fill_set (f := dIns) (z := (dIns (VIns.mk 0 0))) hx
      refine TC.region ?_
      refine TL.vE (Val.move 1 rfl rfl) ?_
      refine TL.vE (Val.move 1 rfl rfl) ?_
      refine TL.vE (Val.move 1 rfl rfl) ?_
      refine TL.vE (Val.move 1 rfl rfl) ?_
      refine TL.vE (by exact Val.indexC (d := dIns x) rfl rfl rfl rfl rfl (by omega) (by simp [hx])) ?_
      refine TL.valE rfl (by first | exact Val.loadCAgg (n := 2) rfl rfl rfl rfl (Nat.le_of_ble_eq_true rfl) | exact Val.loadAgg (n := 2) rfl rfl rfl rfl (by simp [St.cellsAt, St.cellAt, St.root, valC]; rfl) rfl | exact Val.loadAgg (n := 2) rfl rfl rfl rfl rfl rfl) (by simp only [St.put, List.set_cons_succ, List.set_cons_zero, valC, dIns, rIns, D.row, List.take_succ_cons, List.take_zero, List.map_cons, List.map_nil]; rfl) ?_
      refine TL.callF (yes_none rfl) rfl rfl rfl rfl rfl rfl ((laws_toIns_f x).k) (by repeat first | exact .nil | refine Snaps.cons (.ro _) ?_ | refine Snaps.cons (.aggRo rfl) ?_ | refine Snaps.cons (.cptr _) ?_ | refine Snaps.cons (.fn _) ?_ | refine Snaps.cons (.ownRef rfl (by first | assumption | exact w_IntS _ | exact w_IntSS _ | exact w_SlotS _ | exact w_BoolS _ | exact w_InsS _ | exact w_GuestS _ | exact w_KeptS _ | exact w_MonS _ | exact w_EntryS _ | exact w_BareS _)) ?_ | refine Snaps.cons (.aggR (by repeat first | exact .nil | refine SnapCs.cons (.ro _) ?_ | refine SnapCs.cons (.ref rfl (by first | assumption | exact w_IntS _ | exact w_IntSS _ | exact w_SlotS _ | exact w_BoolS _ | exact w_InsS _ | exact w_GuestS _ | exact w_KeptS _ | exact w_MonS _ | exact w_EntryS _ | exact w_BareS _)) ?_)) ?_) rfl (by simp only [nput]; rfl) ?_
      refine TL.vE (by exact Val.index rfl rfl rfl rfl rfl rfl (by omega) (by simp [fill_len]; omega)) ?_
      refine TL.opK rfl fun K hK => ?_
      refine OpT.storeAgg rfl rfl rfl rfl rfl rfl (by simp [St.store1, St.storeAll, St.cellAt, St.isMem, St.root, St.wrote, St.kill, St.setRoot, TS.kill, TV.kill, C.kill, Rt.kill, hitR, hitP, shapeOf, setRow, setAt, rowAt, D.row, D.reRow, List.isPrefixOf, List.getElem?_set_self', List.set_set, hg, hs]; rfl) ?_
      simp only [nrm, Nat.reduceBEq, Nat.reduceBNe, reduceIte]
      refine hK _ ?_
      clear hK K
      refine TL.nil ?_
      show TC _ _ _ _ _ _
      refine TC.region ?_
      refine TL.vE (Val.move 1 rfl rfl) ?_
      refine TL.vE (Val.addO rfl rfl rfl) ?_
      refine TL.vE (Val.assign 1 rfl rfl) ?_
      refine TL.nil ?_
      first | refine Seq.normal ⟨_, ?_, k + 1, ?_, rfl, ?_⟩ | refine Seq.normal (Q := fun _ _ => True) ⟨_, ?_, k + 1, ?_, rfl, ?_⟩
      · omega
      · omega
      · exact Can.to (by repeat first | exact LessT.nil | refine LessT.drop ?_ | refine LessT.keep ?_ | refine LessT.eq (by simp) ?_) (by repeat first | exact .nil | refine .cons rfl rfl ?_)
    have hk11 := hb
    refine TC.exit ?_
    show TC _ _ _ _ _ _
    refine TC.seq ?_
    refine TC.region ?_
    refine TL.vE (Val.move 1 rfl rfl) ?_
    refine TL.vE (Val.assign 1 rfl rfl) ?_
    refine TL.nil ?_
    show TC _ _ _ _ _ _
    refine TC.ret ?_
    exact ⟨.inr rfl, [_], [_], _, rfl, by decide, rfl, by simp [refV, refC, valC, C.kill, hitR], rfl, by simp at hb; rw [← fill_all (f := dIns) (z := (dIns (VIns.mk 0 0))) (k := k) (by omega)]; rfl⟩

theorem laws_toCtl_f (x : VCtl) : Fun Tryz.prog 172 [A (rCtl x)] (RP (A (rCtl x))) := by
  refine Fun.of Tryz.func172 rfl (by simp [Tryz.ntmps172]) fun w g0 => ?_
  simp only [Tryz.ntmps172, List.length_cons, List.length_nil, Nat.reduceAdd, Nat.reduceSub, List.replicate, List.cons_append, List.nil_append]
  refine TC.seq ?_
  refine TC.region ?_
  refine TL.opK rfl fun K hK => ?_
  first | refine OpT.box rfl rfl (z := 1) rfl (by simp) ?_ | refine OpT.boxAgg rfl rfl rfl ?_
  simp only [nrm, Nat.reduceBEq, Nat.reduceBNe, reduceIte]
  refine hK _ ?_
  clear hK K
  refine TL.opK rfl fun K hK => ?_
  refine OpT.alloc rfl rfl rfl rfl rfl rfl ?_
  simp only [nrm, Nat.reduceBEq, Nat.reduceBNe, reduceIte]
  refine hK _ ?_
  clear hK K
  refine TL.nil ?_
  show TC _ _ _ _ _ _
  refine TC.seq ?_
  refine TC.region ?_
  refine TL.opK rfl fun K hK => ?_
  refine OpT.alloc rfl rfl rfl rfl rfl rfl ?_
  simp only [nrm, Nat.reduceBEq, Nat.reduceBNe, reduceIte]
  refine hK _ ?_
  clear hK K
  refine TL.nil ?_
  show TC _ _ _ _ _ _
  refine TC.seq ?_
  refine TC.region ?_
  refine TL.fld ?_
  refine TL.ld ?_
  refine TL.fld ?_
  refine TL.opK rfl fun K hK => ?_
  refine OpT.store (z := 1) rfl rfl rfl rfl rfl rfl (by simp [St.store1, St.storeAll, St.cellAt, St.isMem, St.root, St.wrote, St.kill, St.setRoot, TS.kill, TV.kill, C.kill, Rt.kill, hitR, hitP, shapeOf, setRow, setAt, rowAt, D.row, D.reRow, List.isPrefixOf]; rfl) ?_ -- None
  simp only [nrm, Nat.reduceBEq, Nat.reduceBNe, reduceIte]
  refine hK _ ?_
  clear hK K
  refine TL.nil ?_
  show TC _ _ _ _ _ _
  refine TC.seq ?_
  refine TC.region ?_
  refine TL.fld ?_
  refine TL.ld ?_
  refine TL.fld ?_
  refine TL.opK rfl fun K hK => ?_
  refine OpT.store (z := 1) rfl rfl rfl rfl rfl rfl (by simp [St.store1, St.storeAll, St.cellAt, St.isMem, St.root, St.wrote, St.kill, St.setRoot, TS.kill, TV.kill, C.kill, Rt.kill, hitR, hitP, shapeOf, setRow, setAt, rowAt, D.row, D.reRow, List.isPrefixOf]; rfl) ?_ -- None
  simp only [nrm, Nat.reduceBEq, Nat.reduceBNe, reduceIte]
  refine hK _ ?_
  clear hK K
  refine TL.nil ?_
  show TC _ _ _ _ _ _
  refine TC.seq ?_
  refine TC.region ?_
  refine TL.fld ?_
  refine TL.ld ?_
  refine TL.fld ?_
  refine TL.opK rfl fun K hK => ?_
  refine OpT.store (z := 1) rfl rfl rfl rfl rfl rfl (by simp [St.store1, St.storeAll, St.cellAt, St.isMem, St.root, St.wrote, St.kill, St.setRoot, TS.kill, TV.kill, C.kill, Rt.kill, hitR, hitP, shapeOf, setRow, setAt, rowAt, D.row, D.reRow, List.isPrefixOf]; rfl) ?_ -- None
  simp only [nrm, Nat.reduceBEq, Nat.reduceBNe, reduceIte]
  refine hK _ ?_
  clear hK K
  refine TL.nil ?_
  show TC _ _ _ _ _ _
  refine TC.seq ?_
  refine TC.region ?_
  refine TL.valE rfl (by first | exact Val.loadCAgg (n := 3) rfl rfl rfl rfl (Nat.le_of_ble_eq_true rfl) | exact Val.loadAgg (n := 3) rfl rfl rfl rfl (by simp [St.cellsAt, St.cellAt, St.root, valC]; rfl) rfl | exact Val.loadAgg (n := 3) rfl rfl rfl rfl rfl rfl) (by simp only [St.put, List.set_cons_succ, List.set_cons_zero, valC, dCtl, rCtl, D.row, List.take_succ_cons, List.take_zero, List.map_cons, List.map_nil]; rfl) ?_
  refine TL.opK rfl fun K hK => ?_
  refine OpT.storeAgg rfl rfl rfl rfl rfl rfl (by simp [St.store1, St.storeAll, St.cellAt, St.isMem, St.root, St.wrote, St.kill, St.setRoot, TS.kill, TV.kill, C.kill, Rt.kill, hitR, hitP, shapeOf, setRow, setAt, rowAt, D.row, D.reRow, List.isPrefixOf]; rfl) ?_ -- None
  simp only [nrm, Nat.reduceBEq, Nat.reduceBNe, reduceIte]
  refine hK _ ?_
  clear hK K
  refine TL.nil ?_
  show TC _ _ _ _ _ _
  refine TC.ret ?_
  exact ⟨.inr rfl, [_], [_], _, rfl, by decide, rfl, by simp [refV, refC, valC, C.kill, hitR], rfl, rfl⟩

theorem laws_toExit_f (x : VExit) : Fun Tryz.prog 173 [A (rExit x)] (RP (A (rExit x))) := by
  refine Fun.of Tryz.func173 rfl (by simp [Tryz.ntmps173]) fun w g0 => ?_
  simp only [Tryz.ntmps173, List.length_cons, List.length_nil, Nat.reduceAdd, Nat.reduceSub, List.replicate, List.cons_append, List.nil_append]
  refine TC.seq ?_
  refine TC.region ?_
  refine TL.opK rfl fun K hK => ?_
  first | refine OpT.box rfl rfl (z := 1) rfl (by simp) ?_ | refine OpT.boxAgg rfl rfl rfl ?_
  simp only [nrm, Nat.reduceBEq, Nat.reduceBNe, reduceIte]
  refine hK _ ?_
  clear hK K
  refine TL.opK rfl fun K hK => ?_
  refine OpT.alloc rfl rfl rfl rfl rfl rfl ?_
  simp only [nrm, Nat.reduceBEq, Nat.reduceBNe, reduceIte]
  refine hK _ ?_
  clear hK K
  refine TL.nil ?_
  show TC _ _ _ _ _ _
  refine TC.seq ?_
  refine TC.region ?_
  refine TL.opK rfl fun K hK => ?_
  refine OpT.alloc rfl rfl rfl rfl rfl rfl ?_
  simp only [nrm, Nat.reduceBEq, Nat.reduceBNe, reduceIte]
  refine hK _ ?_
  clear hK K
  refine TL.nil ?_
  show TC _ _ _ _ _ _
  refine TC.seq ?_
  refine TC.region ?_
  refine TL.fld ?_
  refine TL.ld ?_
  refine TL.fld ?_
  refine TL.opK rfl fun K hK => ?_
  refine OpT.store (z := 1) rfl rfl rfl rfl rfl rfl (by simp [St.store1, St.storeAll, St.cellAt, St.isMem, St.root, St.wrote, St.kill, St.setRoot, TS.kill, TV.kill, C.kill, Rt.kill, hitR, hitP, shapeOf, setRow, setAt, rowAt, D.row, D.reRow, List.isPrefixOf]; rfl) ?_ -- None
  simp only [nrm, Nat.reduceBEq, Nat.reduceBNe, reduceIte]
  refine hK _ ?_
  clear hK K
  refine TL.nil ?_
  show TC _ _ _ _ _ _
  refine TC.seq ?_
  refine TC.region ?_
  refine TL.fld ?_
  refine TL.ld ?_
  refine TL.fld ?_
  refine TL.opK rfl fun K hK => ?_
  refine OpT.store (z := 1) rfl rfl rfl rfl rfl rfl (by simp [St.store1, St.storeAll, St.cellAt, St.isMem, St.root, St.wrote, St.kill, St.setRoot, TS.kill, TV.kill, C.kill, Rt.kill, hitR, hitP, shapeOf, setRow, setAt, rowAt, D.row, D.reRow, List.isPrefixOf]; rfl) ?_ -- None
  simp only [nrm, Nat.reduceBEq, Nat.reduceBNe, reduceIte]
  refine hK _ ?_
  clear hK K
  refine TL.nil ?_
  show TC _ _ _ _ _ _
  refine TC.seq ?_
  refine TC.region ?_
  refine TL.fld ?_
  refine TL.ld ?_
  refine TL.fld ?_
  refine TL.opK rfl fun K hK => ?_
  refine OpT.store (z := 1) rfl rfl rfl rfl rfl rfl (by simp [St.store1, St.storeAll, St.cellAt, St.isMem, St.root, St.wrote, St.kill, St.setRoot, TS.kill, TV.kill, C.kill, Rt.kill, hitR, hitP, shapeOf, setRow, setAt, rowAt, D.row, D.reRow, List.isPrefixOf]; rfl) ?_ -- None
  simp only [nrm, Nat.reduceBEq, Nat.reduceBNe, reduceIte]
  refine hK _ ?_
  clear hK K
  refine TL.nil ?_
  show TC _ _ _ _ _ _
  refine TC.seq ?_
  refine TC.region ?_
  refine TL.fld ?_
  refine TL.ld ?_
  refine TL.fld ?_
  refine TL.opK rfl fun K hK => ?_
  refine OpT.store (z := 1) rfl rfl rfl rfl rfl rfl (by simp [St.store1, St.storeAll, St.cellAt, St.isMem, St.root, St.wrote, St.kill, St.setRoot, TS.kill, TV.kill, C.kill, Rt.kill, hitR, hitP, shapeOf, setRow, setAt, rowAt, D.row, D.reRow, List.isPrefixOf]; rfl) ?_ -- None
  simp only [nrm, Nat.reduceBEq, Nat.reduceBNe, reduceIte]
  refine hK _ ?_
  clear hK K
  refine TL.nil ?_
  show TC _ _ _ _ _ _
  refine TC.seq ?_
  refine TC.region ?_
  refine TL.valE rfl (by first | exact Val.loadCAgg (n := 4) rfl rfl rfl rfl (Nat.le_of_ble_eq_true rfl) | exact Val.loadAgg (n := 4) rfl rfl rfl rfl (by simp [St.cellsAt, St.cellAt, St.root, valC]; rfl) rfl | exact Val.loadAgg (n := 4) rfl rfl rfl rfl rfl rfl) (by simp only [St.put, List.set_cons_succ, List.set_cons_zero, valC, dExit, rExit, D.row, List.take_succ_cons, List.take_zero, List.map_cons, List.map_nil]; rfl) ?_
  refine TL.opK rfl fun K hK => ?_
  refine OpT.storeAgg rfl rfl rfl rfl rfl rfl (by simp [St.store1, St.storeAll, St.cellAt, St.isMem, St.root, St.wrote, St.kill, St.setRoot, TS.kill, TV.kill, C.kill, Rt.kill, hitR, hitP, shapeOf, setRow, setAt, rowAt, D.row, D.reRow, List.isPrefixOf]; rfl) ?_ -- None
  simp only [nrm, Nat.reduceBEq, Nat.reduceBNe, reduceIte]
  refine hK _ ?_
  clear hK K
  refine TL.nil ?_
  show TC _ _ _ _ _ _
  refine TC.ret ?_
  exact ⟨.inr rfl, [_], [_], _, rfl, by decide, rfl, by simp [refV, refC, valC, C.kill, hitR], rfl, rfl⟩

theorem laws_toGuest_f (x : VGuest) (hmx : SmGuest x) : Fun Tryz.prog 140 [A (rGuest x)] (RG [.a (rGuest x)]) := by
  refine Fun.of Tryz.func140 rfl (by simp [Tryz.ntmps140]) fun w g0 => ?_
  simp only [Tryz.ntmps140, List.length_cons, List.length_nil, Nat.reduceAdd, Nat.reduceSub, List.replicate, List.cons_append, List.nil_append]
  refine TC.seq ?_
  refine TC.region ?_
  refine TL.opK rfl fun K hK => ?_
  first | refine OpT.box rfl rfl (z := 1) rfl (by simp) ?_ | refine OpT.boxAgg rfl rfl rfl ?_
  simp only [nrm, Nat.reduceBEq, Nat.reduceBNe, reduceIte]
  refine hK _ ?_
  clear hK K
  refine TL.opK rfl fun K hK => ?_
  refine OpT.alloc rfl rfl rfl rfl rfl rfl ?_
  simp only [nrm, Nat.reduceBEq, Nat.reduceBNe, reduceIte]
  refine hK _ ?_
  clear hK K
  refine TL.nil ?_
  show TC _ _ _ _ _ _
  refine TC.seq ?_
  refine TC.region ?_
  refine TL.opK rfl fun K hK => ?_
  refine OpT.alloc rfl rfl rfl rfl rfl rfl ?_
  simp only [nrm, Nat.reduceBEq, Nat.reduceBNe, reduceIte]
  refine hK _ ?_
  clear hK K
  refine TL.nil ?_
  show TC _ _ _ _ _ _
  refine TC.seq ?_
  refine TC.region ?_
  refine TL.fld ?_
  refine TL.ld ?_
  refine TL.opK rfl fun K hK => ?_
  refine OpT.callL rfl rfl rfl rfl rfl rfl ((laws_toInsS_f x.Prog hmx.1).k) (by repeat first | exact .nil | refine Snaps.cons (.ro _) ?_ | refine Snaps.cons (.aggRo rfl) ?_ | refine Snaps.cons (.cptr _) ?_ | refine Snaps.cons (.fn _) ?_ | refine Snaps.cons (.ownRef rfl (by first | assumption | exact w_IntS _ | exact w_IntSS _ | exact w_SlotS _ | exact w_BoolS _ | exact w_InsS _ | exact w_GuestS _ | exact w_KeptS _ | exact w_MonS _ | exact w_EntryS _ | exact w_BareS _)) ?_ | refine Snaps.cons (.aggR (by repeat first | exact .nil | refine SnapCs.cons (.ro _) ?_ | refine SnapCs.cons (.ref rfl (by first | assumption | exact w_IntS _ | exact w_IntSS _ | exact w_SlotS _ | exact w_BoolS _ | exact w_InsS _ | exact w_GuestS _ | exact w_KeptS _ | exact w_MonS _ | exact w_EntryS _ | exact w_BareS _)) ?_)) ?_) ?_
  simp only [nrm, Nat.reduceBEq, Nat.reduceBNe, reduceIte]
  refine hK _ ?_
  clear hK K
  refine TL.fld ?_
  refine TL.opK rfl fun K hK => ?_
  refine OpT.store (z := 1) rfl rfl rfl rfl rfl rfl (by simp [St.store1, St.storeAll, St.cellAt, St.isMem, St.root, St.wrote, St.kill, St.setRoot, TS.kill, TV.kill, C.kill, Rt.kill, hitR, hitP, shapeOf, setRow, setAt, rowAt, D.row, D.reRow, List.isPrefixOf]; rfl) ?_ -- None
  simp only [nrm, Nat.reduceBEq, Nat.reduceBNe, reduceIte]
  refine hK _ ?_
  clear hK K
  refine TL.nil ?_
  show TC _ _ _ _ _ _
  refine TC.seq ?_
  refine TC.region ?_
  refine TL.fld ?_
  refine TL.ld ?_
  refine TL.fld ?_
  refine TL.opK rfl fun K hK => ?_
  refine OpT.store (z := 1) rfl rfl rfl rfl rfl rfl (by simp [St.store1, St.storeAll, St.cellAt, St.isMem, St.root, St.wrote, St.kill, St.setRoot, TS.kill, TV.kill, C.kill, Rt.kill, hitR, hitP, shapeOf, setRow, setAt, rowAt, D.row, D.reRow, List.isPrefixOf]; rfl) ?_ -- None
  simp only [nrm, Nat.reduceBEq, Nat.reduceBNe, reduceIte]
  refine hK _ ?_
  clear hK K
  refine TL.nil ?_
  show TC _ _ _ _ _ _
  refine TC.seq ?_
  refine TC.region ?_
  refine TL.fld ?_
  refine TL.ld ?_
  refine TL.fld ?_
  refine TL.opK rfl fun K hK => ?_
  refine OpT.store (z := 1) rfl rfl rfl rfl rfl rfl (by simp [St.store1, St.storeAll, St.cellAt, St.isMem, St.root, St.wrote, St.kill, St.setRoot, TS.kill, TV.kill, C.kill, Rt.kill, hitR, hitP, shapeOf, setRow, setAt, rowAt, D.row, D.reRow, List.isPrefixOf]; rfl) ?_ -- None
  simp only [nrm, Nat.reduceBEq, Nat.reduceBNe, reduceIte]
  refine hK _ ?_
  clear hK K
  refine TL.nil ?_
  show TC _ _ _ _ _ _
  refine TC.seq ?_
  refine TC.region ?_
  refine TL.fld ?_
  refine TL.ld ?_
  refine TL.opK rfl fun K hK => ?_
  refine OpT.callL rfl rfl rfl rfl rfl rfl ((laws_toSlotS_f x.Written hmx.2.1).k) (by repeat first | exact .nil | refine Snaps.cons (.ro _) ?_ | refine Snaps.cons (.aggRo rfl) ?_ | refine Snaps.cons (.cptr _) ?_ | refine Snaps.cons (.fn _) ?_ | refine Snaps.cons (.ownRef rfl (by first | assumption | exact w_IntS _ | exact w_IntSS _ | exact w_SlotS _ | exact w_BoolS _ | exact w_InsS _ | exact w_GuestS _ | exact w_KeptS _ | exact w_MonS _ | exact w_EntryS _ | exact w_BareS _)) ?_ | refine Snaps.cons (.aggR (by repeat first | exact .nil | refine SnapCs.cons (.ro _) ?_ | refine SnapCs.cons (.ref rfl (by first | assumption | exact w_IntS _ | exact w_IntSS _ | exact w_SlotS _ | exact w_BoolS _ | exact w_InsS _ | exact w_GuestS _ | exact w_KeptS _ | exact w_MonS _ | exact w_EntryS _ | exact w_BareS _)) ?_)) ?_) ?_
  simp only [nrm, Nat.reduceBEq, Nat.reduceBNe, reduceIte]
  refine hK _ ?_
  clear hK K
  refine TL.fld ?_
  refine TL.opK rfl fun K hK => ?_
  refine OpT.store (z := 1) rfl rfl rfl rfl rfl rfl (by simp [St.store1, St.storeAll, St.cellAt, St.isMem, St.root, St.wrote, St.kill, St.setRoot, TS.kill, TV.kill, C.kill, Rt.kill, hitR, hitP, shapeOf, setRow, setAt, rowAt, D.row, D.reRow, List.isPrefixOf]; rfl) ?_ -- None
  simp only [nrm, Nat.reduceBEq, Nat.reduceBNe, reduceIte]
  refine hK _ ?_
  clear hK K
  refine TL.nil ?_
  show TC _ _ _ _ _ _
  refine TC.seq ?_
  refine TC.region ?_
  refine TL.fld ?_
  refine TL.ld ?_
  refine TL.opK rfl fun K hK => ?_
  refine OpT.callL rfl rfl rfl rfl rfl rfl ((laws_toSlotS_f x.Live hmx.2.2.1).k) (by repeat first | exact .nil | refine Snaps.cons (.ro _) ?_ | refine Snaps.cons (.aggRo rfl) ?_ | refine Snaps.cons (.cptr _) ?_ | refine Snaps.cons (.fn _) ?_ | refine Snaps.cons (.ownRef rfl (by first | assumption | exact w_IntS _ | exact w_IntSS _ | exact w_SlotS _ | exact w_BoolS _ | exact w_InsS _ | exact w_GuestS _ | exact w_KeptS _ | exact w_MonS _ | exact w_EntryS _ | exact w_BareS _)) ?_ | refine Snaps.cons (.aggR (by repeat first | exact .nil | refine SnapCs.cons (.ro _) ?_ | refine SnapCs.cons (.ref rfl (by first | assumption | exact w_IntS _ | exact w_IntSS _ | exact w_SlotS _ | exact w_BoolS _ | exact w_InsS _ | exact w_GuestS _ | exact w_KeptS _ | exact w_MonS _ | exact w_EntryS _ | exact w_BareS _)) ?_)) ?_) ?_
  simp only [nrm, Nat.reduceBEq, Nat.reduceBNe, reduceIte]
  refine hK _ ?_
  clear hK K
  refine TL.fld ?_
  refine TL.opK rfl fun K hK => ?_
  refine OpT.store (z := 1) rfl rfl rfl rfl rfl rfl (by simp [St.store1, St.storeAll, St.cellAt, St.isMem, St.root, St.wrote, St.kill, St.setRoot, TS.kill, TV.kill, C.kill, Rt.kill, hitR, hitP, shapeOf, setRow, setAt, rowAt, D.row, D.reRow, List.isPrefixOf]; rfl) ?_ -- None
  simp only [nrm, Nat.reduceBEq, Nat.reduceBNe, reduceIte]
  refine hK _ ?_
  clear hK K
  refine TL.nil ?_
  show TC _ _ _ _ _ _
  refine TC.seq ?_
  refine TC.region ?_
  refine TL.fld ?_
  refine TL.valE rfl (by first | exact Val.loadCAgg (n := 3) rfl rfl rfl rfl (Nat.le_of_ble_eq_true rfl) | exact Val.loadAgg (n := 3) rfl rfl rfl rfl (by simp [St.cellsAt, St.cellAt, St.root, valC]; rfl) rfl | exact Val.loadAgg (n := 3) rfl rfl rfl rfl rfl rfl) (by simp only [St.put, List.set_cons_succ, List.set_cons_zero, valC, dCtl, rCtl, D.row, List.take_succ_cons, List.take_zero, List.map_cons, List.map_nil]; rfl) ?_
  refine TL.callF (yes_none rfl) rfl rfl rfl rfl rfl rfl ((laws_toCtl_f x.Ctl).k) (by repeat first | exact .nil | refine Snaps.cons (.ro _) ?_ | refine Snaps.cons (.aggRo rfl) ?_ | refine Snaps.cons (.cptr _) ?_ | refine Snaps.cons (.fn _) ?_ | refine Snaps.cons (.ownRef rfl (by first | assumption | exact w_IntS _ | exact w_IntSS _ | exact w_SlotS _ | exact w_BoolS _ | exact w_InsS _ | exact w_GuestS _ | exact w_KeptS _ | exact w_MonS _ | exact w_EntryS _ | exact w_BareS _)) ?_ | refine Snaps.cons (.aggR (by repeat first | exact .nil | refine SnapCs.cons (.ro _) ?_ | refine SnapCs.cons (.ref rfl (by first | assumption | exact w_IntS _ | exact w_IntSS _ | exact w_SlotS _ | exact w_BoolS _ | exact w_InsS _ | exact w_GuestS _ | exact w_KeptS _ | exact w_MonS _ | exact w_EntryS _ | exact w_BareS _)) ?_)) ?_) rfl (by simp only [nput]; rfl) ?_
  refine TL.fld ?_
  refine TL.opK rfl fun K hK => ?_
  refine OpT.storeAgg rfl rfl rfl rfl rfl rfl (by simp [St.store1, St.storeAll, St.cellAt, St.isMem, St.root, St.wrote, St.kill, St.setRoot, TS.kill, TV.kill, C.kill, Rt.kill, hitR, hitP, shapeOf, setRow, setAt, rowAt, D.row, D.reRow, List.isPrefixOf]; rfl) ?_ -- None
  simp only [nrm, Nat.reduceBEq, Nat.reduceBNe, reduceIte]
  refine hK _ ?_
  clear hK K
  refine TL.nil ?_
  show TC _ _ _ _ _ _
  refine TC.seq ?_
  refine TC.region ?_
  refine TL.fld ?_
  refine TL.ld ?_
  refine TL.fld ?_
  refine TL.opK rfl fun K hK => ?_
  refine OpT.store (z := 1) rfl rfl rfl rfl rfl rfl (by simp [St.store1, St.storeAll, St.cellAt, St.isMem, St.root, St.wrote, St.kill, St.setRoot, TS.kill, TV.kill, C.kill, Rt.kill, hitR, hitP, shapeOf, setRow, setAt, rowAt, D.row, D.reRow, List.isPrefixOf]; rfl) ?_ -- None
  simp only [nrm, Nat.reduceBEq, Nat.reduceBNe, reduceIte]
  refine hK _ ?_
  clear hK K
  refine TL.nil ?_
  show TC _ _ _ _ _ _
  refine TC.seq ?_
  refine TC.region ?_
  refine TL.fld ?_
  refine TL.valE rfl (by first | exact Val.loadCAgg (n := 4) rfl rfl rfl rfl (Nat.le_of_ble_eq_true rfl) | exact Val.loadAgg (n := 4) rfl rfl rfl rfl (by simp [St.cellsAt, St.cellAt, St.root, valC]; rfl) rfl | exact Val.loadAgg (n := 4) rfl rfl rfl rfl rfl rfl) (by simp only [St.put, List.set_cons_succ, List.set_cons_zero, valC, dExit, rExit, D.row, List.take_succ_cons, List.take_zero, List.map_cons, List.map_nil]; rfl) ?_
  refine TL.callF (yes_none rfl) rfl rfl rfl rfl rfl rfl ((laws_toExit_f x.Exit).k) (by repeat first | exact .nil | refine Snaps.cons (.ro _) ?_ | refine Snaps.cons (.aggRo rfl) ?_ | refine Snaps.cons (.cptr _) ?_ | refine Snaps.cons (.fn _) ?_ | refine Snaps.cons (.ownRef rfl (by first | assumption | exact w_IntS _ | exact w_IntSS _ | exact w_SlotS _ | exact w_BoolS _ | exact w_InsS _ | exact w_GuestS _ | exact w_KeptS _ | exact w_MonS _ | exact w_EntryS _ | exact w_BareS _)) ?_ | refine Snaps.cons (.aggR (by repeat first | exact .nil | refine SnapCs.cons (.ro _) ?_ | refine SnapCs.cons (.ref rfl (by first | assumption | exact w_IntS _ | exact w_IntSS _ | exact w_SlotS _ | exact w_BoolS _ | exact w_InsS _ | exact w_GuestS _ | exact w_KeptS _ | exact w_MonS _ | exact w_EntryS _ | exact w_BareS _)) ?_)) ?_) rfl (by simp only [nput]; rfl) ?_
  refine TL.fld ?_
  refine TL.opK rfl fun K hK => ?_
  refine OpT.storeAgg rfl rfl rfl rfl rfl rfl (by simp [St.store1, St.storeAll, St.cellAt, St.isMem, St.root, St.wrote, St.kill, St.setRoot, TS.kill, TV.kill, C.kill, Rt.kill, hitR, hitP, shapeOf, setRow, setAt, rowAt, D.row, D.reRow, List.isPrefixOf]; rfl) ?_ -- None
  simp only [nrm, Nat.reduceBEq, Nat.reduceBNe, reduceIte]
  refine hK _ ?_
  clear hK K
  refine TL.nil ?_
  show TC _ _ _ _ _ _
  refine TC.seq ?_
  refine TC.region ?_
  refine TL.fld ?_
  refine TL.ld ?_
  refine TL.fld ?_
  refine TL.opK rfl fun K hK => ?_
  refine OpT.store (z := 1) rfl rfl rfl rfl rfl rfl (by simp [St.store1, St.storeAll, St.cellAt, St.isMem, St.root, St.wrote, St.kill, St.setRoot, TS.kill, TV.kill, C.kill, Rt.kill, hitR, hitP, shapeOf, setRow, setAt, rowAt, D.row, D.reRow, List.isPrefixOf]; rfl) ?_ -- None
  simp only [nrm, Nat.reduceBEq, Nat.reduceBNe, reduceIte]
  refine hK _ ?_
  clear hK K
  refine TL.nil ?_
  show TC _ _ _ _ _ _
  refine TC.seq ?_
  refine TC.region ?_
  refine TL.fld ?_
  refine TL.ld ?_
  refine TL.opK rfl fun K hK => ?_
  refine OpT.callL rfl rfl rfl rfl rfl rfl ((laws_toIntS_f x.Seen hmx.2.2.2).k) (by repeat first | exact .nil | refine Snaps.cons (.ro _) ?_ | refine Snaps.cons (.aggRo rfl) ?_ | refine Snaps.cons (.cptr _) ?_ | refine Snaps.cons (.fn _) ?_ | refine Snaps.cons (.ownRef rfl (by first | assumption | exact w_IntS _ | exact w_IntSS _ | exact w_SlotS _ | exact w_BoolS _ | exact w_InsS _ | exact w_GuestS _ | exact w_KeptS _ | exact w_MonS _ | exact w_EntryS _ | exact w_BareS _)) ?_ | refine Snaps.cons (.aggR (by repeat first | exact .nil | refine SnapCs.cons (.ro _) ?_ | refine SnapCs.cons (.ref rfl (by first | assumption | exact w_IntS _ | exact w_IntSS _ | exact w_SlotS _ | exact w_BoolS _ | exact w_InsS _ | exact w_GuestS _ | exact w_KeptS _ | exact w_MonS _ | exact w_EntryS _ | exact w_BareS _)) ?_)) ?_) ?_
  simp only [nrm, Nat.reduceBEq, Nat.reduceBNe, reduceIte]
  refine hK _ ?_
  clear hK K
  refine TL.fld ?_
  refine TL.opK rfl fun K hK => ?_
  refine OpT.store (z := 1) rfl rfl rfl rfl rfl rfl (by simp [St.store1, St.storeAll, St.cellAt, St.isMem, St.root, St.wrote, St.kill, St.setRoot, TS.kill, TV.kill, C.kill, Rt.kill, hitR, hitP, shapeOf, setRow, setAt, rowAt, D.row, D.reRow, List.isPrefixOf]; rfl) ?_ -- None
  simp only [nrm, Nat.reduceBEq, Nat.reduceBNe, reduceIte]
  refine hK _ ?_
  clear hK K
  refine TL.nil ?_
  show TC _ _ _ _ _ _
  refine TC.seq ?_
  refine TC.region ?_
  refine TL.valE rfl (by first | exact Val.loadCAgg (n := 15) rfl rfl rfl rfl (Nat.le_of_ble_eq_true rfl) | exact Val.loadAgg (n := 15) rfl rfl rfl rfl (by simp [St.cellsAt, St.cellAt, St.root, valC]; rfl) rfl | exact Val.loadAgg (n := 15) rfl rfl rfl rfl rfl rfl) (by simp only [St.put, List.set_cons_succ, List.set_cons_zero, valC, dGuest, rGuest, D.row, List.take_succ_cons, List.take_zero, List.map_cons, List.map_nil]; rfl) ?_
  refine TL.opK rfl fun K hK => ?_
  refine OpT.storeAgg rfl rfl rfl rfl rfl rfl (by simp [St.store1, St.storeAll, St.cellAt, St.isMem, St.root, St.wrote, St.kill, St.setRoot, TS.kill, TV.kill, C.kill, Rt.kill, hitR, hitP, shapeOf, setRow, setAt, rowAt, D.row, D.reRow, List.isPrefixOf]; rfl) ?_ -- None
  simp only [nrm, Nat.reduceBEq, Nat.reduceBNe, reduceIte]
  refine hK _ ?_
  clear hK K
  refine TL.nil ?_
  show TC _ _ _ _ _ _
  refine TC.ret ?_
  exact ⟨.inr rfl, [_], [_], _, rfl, by decide, rfl, by simp [refV, refC, valC, C.kill, hitR], rfl, rfl⟩

theorem laws_toGuestS_f (xs : List VGuest) (hmx : SmGuestS xs) : Fun Tryz.prog 84 [L 15 (xs.map dGuest)] (RL 15 (xs.map dGuest)) := by
  refine Fun.of Tryz.func84 rfl (by simp [Tryz.ntmps84]) fun w g0 => ?_
  simp only [Tryz.ntmps84, List.length_cons, List.length_nil, Nat.reduceAdd, Nat.reduceSub, List.replicate, List.cons_append, List.nil_append]
  have hlen : xs.length ≤ 1048576 := hmx.1
  refine TC.seq ?_
  refine TC.region ?_
  refine TL.vE (Val.assign 1 rfl rfl) ?_
  refine TL.nil ?_
  show TC _ _ _ _ _ _
  refine TC.seq ?_
  refine TC.region ?_
  refine TL.vE (Val.move 1 rfl rfl) ?_
  refine TL.vE (by first | exact Val.len rfl rfl rfl rfl | exact Val.lenS rfl rfl rfl) ?_
  refine TL.opK rfl fun K hK => ?_
  refine OpT.makeE (d := (dGuest (VGuest.mk [] 0 0 [] [] (VCtl.mk 0 0 false) 0 (VExit.mk 0 0 false 0) false []))) rfl rfl rfl rfl rfl rfl rfl (sz := 15) rfl rfl rfl rfl rfl rfl rfl (by omega) (by simp; omega) ?_
  simp only [nrm, Nat.reduceBEq, Nat.reduceBNe, reduceIte]
  refine hK _ ?_
  clear hK K
  refine TL.vE (Val.assign 1 rfl rfl) ?_
  refine TL.nil ?_
  show TC _ _ _ _ _ _
  refine TC.seq ?_
  refine TC.seq ?_
  refine TC.region ?_
  refine TL.vE (Val.assign 1 rfl rfl) ?_
  refine TL.nil ?_
  show TC _ _ _ _ _ _
  refine TC.block ?_
  refine TC.loop (fun μ st => ∃ k : Nat, (k ≤ xs.length) ∧ μ = xs.length - k ∧ Can st ⟨[L 15 (xs.map dGuest), .one .dead, .one .dead, .one (.c (.ref ⟨7, [], 0⟩)), I k, .one .dead, .one .dead, .one .dead, .one .dead, .one .dead, .one .dead, .one .dead, .one .dead, .one .dead, .one .dead, .one .dead, .one .dead, .one .dead, .one .dead, .one .dead, .one .dead, .one .dead, .one .dead], [(7, ⟨false, [.own (.sl 15 (fill dGuest (dGuest (VGuest.mk [] 0 0 [] [] (VCtl.mk 0 0 false) 0 (VExit.mk 0 0 false 0) false [])) xs k))]⟩)]⟩) (xs.length) ?_ fun μ st hI => ?_
  · refine ⟨0, by simp, by simp, ?_⟩
    exact Can.to (by repeat first | exact LessT.nil | refine LessT.drop ?_ | refine LessT.keep ?_ | refine LessT.eq (by simp) ?_) (.cons rfl (by simp [fill]) .nil)
  · obtain ⟨k, hyp, rfl, hcan⟩ := hI
    refine TC.can hcan ?_
    clear hcan
    refine TC.seq ?_
    refine TC.seq ?_
    refine TC.region ?_
    refine TL.vE (Val.move 1 rfl rfl) ?_
    refine TL.vE (Val.move 1 rfl rfl) ?_
    refine TL.vE (by first | exact Val.len rfl rfl rfl rfl | exact Val.lenS rfl rfl rfl) ?_
    refine TL.vE (Val.lss rfl rfl rfl) ?_
    refine TL.nil ?_
    show TC _ _ _ _ _ _
    refine TC.cond rfl (fun hb => ?_) (fun hb => ?_)
    · have hk11 := hb
      refine TC.skip ?_
      show TC _ _ _ _ _ _
      refine TC.seq ?_
      refine TC.block ?_
      have hk : k < xs.length := by simpa using hb
      obtain ⟨x, hx⟩ := at_of (xs := xs) (k := k) hk
      have hsx : SmGuest x := hmx.2 x (List.mem_of_getElem? hx)
      have hg := fill_get (f := dGuest) (z := (dGuest (VGuest.mk [] 0 0 [] [] (VCtl.mk 0 0 false) 0 (VExit.mk 0 0 false 0) false []))) hk
      have hs := fill_set (f := dGuest) (z := (dGuest (VGuest.mk [] 0 0 [] [] (VCtl.mk 0 0 false) 0 (VExit.mk 0 0 false 0) false []))) hx
      have hg2 := hg
      have hs2 := hs
      simp only [dGuest, rGuest, List.map_nil] at hg2 hs2
      refine TC.region ?_
      refine TL.vE (Val.move 1 rfl rfl) ?_
      refine TL.vE (Val.move 1 rfl rfl) ?_
      refine TL.vE (Val.move 1 rfl rfl) ?_
      refine TL.vE (Val.move 1 rfl rfl) ?_
      refine TL.vE (by exact Val.indexC (d := dGuest x) rfl rfl rfl rfl rfl (by omega) (by simp [hx])) ?_
      refine TL.valE rfl (by first | exact Val.loadCAgg (n := 15) rfl rfl rfl rfl (Nat.le_of_ble_eq_true rfl) | exact Val.loadAgg (n := 15) rfl rfl rfl rfl (by simp [St.cellsAt, St.cellAt, St.root, valC]; rfl) rfl | exact Val.loadAgg (n := 15) rfl rfl rfl rfl rfl rfl) (by simp only [St.put, List.set_cons_succ, List.set_cons_zero, valC, dGuest, rGuest, D.row, List.take_succ_cons, List.take_zero, List.map_cons, List.map_nil]; rfl) ?_
      refine TL.opK rfl fun K hK => ?_
      refine OpT.callG rfl rfl rfl rfl rfl rfl ((laws_toGuest_f x hsx).k) (by repeat first | exact .nil | refine Snaps.cons (.ro _) ?_ | refine Snaps.cons (.aggRo rfl) ?_ | refine Snaps.cons (.cptr _) ?_ | refine Snaps.cons (.fn _) ?_ | refine Snaps.cons (.ownRef rfl (by first | assumption | exact w_IntS _ | exact w_IntSS _ | exact w_SlotS _ | exact w_BoolS _ | exact w_InsS _ | exact w_GuestS _ | exact w_KeptS _ | exact w_MonS _ | exact w_EntryS _ | exact w_BareS _)) ?_ | refine Snaps.cons (.aggR (by repeat first | exact .nil | refine SnapCs.cons (.ro _) ?_ | refine SnapCs.cons (.ref rfl (by first | assumption | exact w_IntS _ | exact w_IntSS _ | exact w_SlotS _ | exact w_BoolS _ | exact w_InsS _ | exact w_GuestS _ | exact w_KeptS _ | exact w_MonS _ | exact w_EntryS _ | exact w_BareS _)) ?_)) ?_) rfl ?_
      simp only [nrm, Nat.reduceBEq, Nat.reduceBNe, reduceIte]
      refine hK _ ?_
      clear hK K
      refine TL.vE (by exact Val.index rfl rfl rfl rfl rfl rfl (by omega) (by simp [fill_len]; omega)) ?_
      refine TL.opK rfl fun K hK => ?_
      refine OpT.storeAgg rfl rfl rfl rfl rfl rfl (by first | (simp [St.store1, St.storeAll, St.cellAt, St.isMem, St.root, St.wrote, St.kill, St.setRoot, TS.kill, TV.kill, C.kill, Rt.kill, hitR, hitP, shapeOf, setRow, setAt, rowAt, D.row, D.reRow, List.isPrefixOf, List.getElem?_set_self', List.set_set, hg, hs]; rfl) | (simp [St.store1, St.storeAll, St.cellAt, St.isMem, St.root, St.wrote, St.kill, St.setRoot, TS.kill, TV.kill, C.kill, Rt.kill, hitR, hitP, shapeOf, setRow, setAt, rowAt, D.row, D.reRow, List.isPrefixOf, List.getElem?_set_self', List.set_set, hg2, hs2]; rfl)) ?_
      simp only [nrm, Nat.reduceBEq, Nat.reduceBNe, reduceIte]
      refine hK _ ?_
      clear hK K
      refine TL.nil ?_
      show TC _ _ _ _ _ _
      refine TC.region ?_
      refine TL.vE (Val.move 1 rfl rfl) ?_
      refine TL.vE (Val.addO rfl rfl rfl) ?_
      refine TL.vE (Val.assign 1 rfl rfl) ?_
      refine TL.nil ?_
      first | refine Seq.normal ⟨_, ?_, k + 1, ?_, rfl, ?_⟩ | refine Seq.normal (Q := fun _ _ => True) ⟨_, ?_, k + 1, ?_, rfl, ?_⟩
      · omega
      · omega
      · exact Can.to (by repeat first | exact LessT.nil | refine LessT.drop ?_ | refine LessT.keep ?_ | refine LessT.eq (by simp) ?_) (by repeat first | exact .nil | refine .cons rfl rfl ?_)
    have hk11 := hb
    refine TC.exit ?_
    show TC _ _ _ _ _ _
    refine TC.seq ?_
    refine TC.region ?_
    refine TL.vE (Val.move 1 rfl rfl) ?_
    refine TL.vE (Val.assign 1 rfl rfl) ?_
    refine TL.nil ?_
    show TC _ _ _ _ _ _
    refine TC.ret ?_
    exact ⟨.inr rfl, [_], [_], _, rfl, by decide, rfl, by simp [refV, refC, valC, C.kill, hitR], rfl, by simp at hb; rw [← fill_all (f := dGuest) (z := (dGuest (VGuest.mk [] 0 0 [] [] (VCtl.mk 0 0 false) 0 (VExit.mk 0 0 false 0) false []))) (k := k) (by omega)]; rfl⟩

theorem laws_toKept_f (x : VKept) (hmx : SmKept x) : Fun Tryz.prog 141 [A (rKept x)] (RG [.a (rKept x)]) := by
  refine Fun.of Tryz.func141 rfl (by simp [Tryz.ntmps141]) fun w g0 => ?_
  simp only [Tryz.ntmps141, List.length_cons, List.length_nil, Nat.reduceAdd, Nat.reduceSub, List.replicate, List.cons_append, List.nil_append]
  refine TC.seq ?_
  refine TC.region ?_
  refine TL.opK rfl fun K hK => ?_
  first | refine OpT.box rfl rfl (z := 1) rfl (by simp) ?_ | refine OpT.boxAgg rfl rfl rfl ?_
  simp only [nrm, Nat.reduceBEq, Nat.reduceBNe, reduceIte]
  refine hK _ ?_
  clear hK K
  refine TL.opK rfl fun K hK => ?_
  refine OpT.alloc rfl rfl rfl rfl rfl rfl ?_
  simp only [nrm, Nat.reduceBEq, Nat.reduceBNe, reduceIte]
  refine hK _ ?_
  clear hK K
  refine TL.nil ?_
  show TC _ _ _ _ _ _
  refine TC.seq ?_
  refine TC.region ?_
  refine TL.opK rfl fun K hK => ?_
  refine OpT.alloc rfl rfl rfl rfl rfl rfl ?_
  simp only [nrm, Nat.reduceBEq, Nat.reduceBNe, reduceIte]
  refine hK _ ?_
  clear hK K
  refine TL.nil ?_
  show TC _ _ _ _ _ _
  refine TC.seq ?_
  refine TC.region ?_
  refine TL.fld ?_
  refine TL.ld ?_
  refine TL.opK rfl fun K hK => ?_
  refine OpT.callL rfl rfl rfl rfl rfl rfl ((laws_toBoolS_f x.Known hmx.1).k) (by repeat first | exact .nil | refine Snaps.cons (.ro _) ?_ | refine Snaps.cons (.aggRo rfl) ?_ | refine Snaps.cons (.cptr _) ?_ | refine Snaps.cons (.fn _) ?_ | refine Snaps.cons (.ownRef rfl (by first | assumption | exact w_IntS _ | exact w_IntSS _ | exact w_SlotS _ | exact w_BoolS _ | exact w_InsS _ | exact w_GuestS _ | exact w_KeptS _ | exact w_MonS _ | exact w_EntryS _ | exact w_BareS _)) ?_ | refine Snaps.cons (.aggR (by repeat first | exact .nil | refine SnapCs.cons (.ro _) ?_ | refine SnapCs.cons (.ref rfl (by first | assumption | exact w_IntS _ | exact w_IntSS _ | exact w_SlotS _ | exact w_BoolS _ | exact w_InsS _ | exact w_GuestS _ | exact w_KeptS _ | exact w_MonS _ | exact w_EntryS _ | exact w_BareS _)) ?_)) ?_) ?_
  simp only [nrm, Nat.reduceBEq, Nat.reduceBNe, reduceIte]
  refine hK _ ?_
  clear hK K
  refine TL.fld ?_
  refine TL.opK rfl fun K hK => ?_
  refine OpT.store (z := 1) rfl rfl rfl rfl rfl rfl (by simp [St.store1, St.storeAll, St.cellAt, St.isMem, St.root, St.wrote, St.kill, St.setRoot, TS.kill, TV.kill, C.kill, Rt.kill, hitR, hitP, shapeOf, setRow, setAt, rowAt, D.row, D.reRow, List.isPrefixOf]; rfl) ?_ -- None
  simp only [nrm, Nat.reduceBEq, Nat.reduceBNe, reduceIte]
  refine hK _ ?_
  clear hK K
  refine TL.nil ?_
  show TC _ _ _ _ _ _
  refine TC.seq ?_
  refine TC.region ?_
  refine TL.fld ?_
  refine TL.ld ?_
  refine TL.opK rfl fun K hK => ?_
  refine OpT.callL rfl rfl rfl rfl rfl rfl ((laws_toSlotS_f x.Slots hmx.2).k) (by repeat first | exact .nil | refine Snaps.cons (.ro _) ?_ | refine Snaps.cons (.aggRo rfl) ?_ | refine Snaps.cons (.cptr _) ?_ | refine Snaps.cons (.fn _) ?_ | refine Snaps.cons (.ownRef rfl (by first | assumption | exact w_IntS _ | exact w_IntSS _ | exact w_SlotS _ | exact w_BoolS _ | exact w_InsS _ | exact w_GuestS _ | exact w_KeptS _ | exact w_MonS _ | exact w_EntryS _ | exact w_BareS _)) ?_ | refine Snaps.cons (.aggR (by repeat first | exact .nil | refine SnapCs.cons (.ro _) ?_ | refine SnapCs.cons (.ref rfl (by first | assumption | exact w_IntS _ | exact w_IntSS _ | exact w_SlotS _ | exact w_BoolS _ | exact w_InsS _ | exact w_GuestS _ | exact w_KeptS _ | exact w_MonS _ | exact w_EntryS _ | exact w_BareS _)) ?_)) ?_) ?_
  simp only [nrm, Nat.reduceBEq, Nat.reduceBNe, reduceIte]
  refine hK _ ?_
  clear hK K
  refine TL.fld ?_
  refine TL.opK rfl fun K hK => ?_
  refine OpT.store (z := 1) rfl rfl rfl rfl rfl rfl (by simp [St.store1, St.storeAll, St.cellAt, St.isMem, St.root, St.wrote, St.kill, St.setRoot, TS.kill, TV.kill, C.kill, Rt.kill, hitR, hitP, shapeOf, setRow, setAt, rowAt, D.row, D.reRow, List.isPrefixOf]; rfl) ?_ -- None
  simp only [nrm, Nat.reduceBEq, Nat.reduceBNe, reduceIte]
  refine hK _ ?_
  clear hK K
  refine TL.nil ?_
  show TC _ _ _ _ _ _
  refine TC.seq ?_
  refine TC.region ?_
  refine TL.valE rfl (by first | exact Val.loadCAgg (n := 2) rfl rfl rfl rfl (Nat.le_of_ble_eq_true rfl) | exact Val.loadAgg (n := 2) rfl rfl rfl rfl (by simp [St.cellsAt, St.cellAt, St.root, valC]; rfl) rfl | exact Val.loadAgg (n := 2) rfl rfl rfl rfl rfl rfl) (by simp only [St.put, List.set_cons_succ, List.set_cons_zero, valC, dKept, rKept, D.row, List.take_succ_cons, List.take_zero, List.map_cons, List.map_nil]; rfl) ?_
  refine TL.opK rfl fun K hK => ?_
  refine OpT.storeAgg rfl rfl rfl rfl rfl rfl (by simp [St.store1, St.storeAll, St.cellAt, St.isMem, St.root, St.wrote, St.kill, St.setRoot, TS.kill, TV.kill, C.kill, Rt.kill, hitR, hitP, shapeOf, setRow, setAt, rowAt, D.row, D.reRow, List.isPrefixOf]; rfl) ?_ -- None
  simp only [nrm, Nat.reduceBEq, Nat.reduceBNe, reduceIte]
  refine hK _ ?_
  clear hK K
  refine TL.nil ?_
  show TC _ _ _ _ _ _
  refine TC.ret ?_
  exact ⟨.inr rfl, [_], [_], _, rfl, by decide, rfl, by simp [refV, refC, valC, C.kill, hitR], rfl, rfl⟩

theorem laws_toKeptS_f (xs : List VKept) (hmx : SmKeptS xs) : Fun Tryz.prog 85 [L 2 (xs.map dKept)] (RL 2 (xs.map dKept)) := by
  refine Fun.of Tryz.func85 rfl (by simp [Tryz.ntmps85]) fun w g0 => ?_
  simp only [Tryz.ntmps85, List.length_cons, List.length_nil, Nat.reduceAdd, Nat.reduceSub, List.replicate, List.cons_append, List.nil_append]
  have hlen : xs.length ≤ 1048576 := hmx.1
  refine TC.seq ?_
  refine TC.region ?_
  refine TL.vE (Val.assign 1 rfl rfl) ?_
  refine TL.nil ?_
  show TC _ _ _ _ _ _
  refine TC.seq ?_
  refine TC.region ?_
  refine TL.vE (Val.move 1 rfl rfl) ?_
  refine TL.vE (by first | exact Val.len rfl rfl rfl rfl | exact Val.lenS rfl rfl rfl) ?_
  refine TL.opK rfl fun K hK => ?_
  refine OpT.makeE (d := (dKept (VKept.mk [] []))) rfl rfl rfl rfl rfl rfl rfl (sz := 2) rfl rfl rfl rfl rfl rfl rfl (by omega) (by simp; omega) ?_
  simp only [nrm, Nat.reduceBEq, Nat.reduceBNe, reduceIte]
  refine hK _ ?_
  clear hK K
  refine TL.vE (Val.assign 1 rfl rfl) ?_
  refine TL.nil ?_
  show TC _ _ _ _ _ _
  refine TC.seq ?_
  refine TC.seq ?_
  refine TC.region ?_
  refine TL.vE (Val.assign 1 rfl rfl) ?_
  refine TL.nil ?_
  show TC _ _ _ _ _ _
  refine TC.block ?_
  refine TC.loop (fun μ st => ∃ k : Nat, (k ≤ xs.length) ∧ μ = xs.length - k ∧ Can st ⟨[L 2 (xs.map dKept), .one .dead, .one .dead, .one (.c (.ref ⟨7, [], 0⟩)), I k, .one .dead, .one .dead, .one .dead, .one .dead, .one .dead, .one .dead, .one .dead, .one .dead, .one .dead, .one .dead, .one .dead, .one .dead, .one .dead, .one .dead, .one .dead, .one .dead, .one .dead, .one .dead], [(7, ⟨false, [.own (.sl 2 (fill dKept (dKept (VKept.mk [] [])) xs k))]⟩)]⟩) (xs.length) ?_ fun μ st hI => ?_
  · refine ⟨0, by simp, by simp, ?_⟩
    exact Can.to (by repeat first | exact LessT.nil | refine LessT.drop ?_ | refine LessT.keep ?_ | refine LessT.eq (by simp) ?_) (.cons rfl (by simp [fill]) .nil)
  · obtain ⟨k, hyp, rfl, hcan⟩ := hI
    refine TC.can hcan ?_
    clear hcan
    refine TC.seq ?_
    refine TC.seq ?_
    refine TC.region ?_
    refine TL.vE (Val.move 1 rfl rfl) ?_
    refine TL.vE (Val.move 1 rfl rfl) ?_
    refine TL.vE (by first | exact Val.len rfl rfl rfl rfl | exact Val.lenS rfl rfl rfl) ?_
    refine TL.vE (Val.lss rfl rfl rfl) ?_
    refine TL.nil ?_
    show TC _ _ _ _ _ _
    refine TC.cond rfl (fun hb => ?_) (fun hb => ?_)
    · have hk11 := hb
      refine TC.skip ?_
      show TC _ _ _ _ _ _
      refine TC.seq ?_
      refine TC.block ?_
      have hk : k < xs.length := by simpa using hb
      obtain ⟨x, hx⟩ := at_of (xs := xs) (k := k) hk
      have hsx : SmKept x := hmx.2 x (List.mem_of_getElem? hx)
      have hg := fill_get (f := dKept) (z := (dKept (VKept.mk [] []))) hk
      have hs := fill_set (f := dKept) (z := (dKept (VKept.mk [] []))) hx
      have hg2 := hg
      have hs2 := hs
      simp only [dKept, rKept, List.map_nil] at hg2 hs2
      refine TC.region ?_
      refine TL.vE (Val.move 1 rfl rfl) ?_
      refine TL.vE (Val.move 1 rfl rfl) ?_
      refine TL.vE (Val.move 1 rfl rfl) ?_
      refine TL.vE (Val.move 1 rfl rfl) ?_
      refine TL.vE (by exact Val.indexC (d := dKept x) rfl rfl rfl rfl rfl (by omega) (by simp [hx])) ?_
      refine TL.valE rfl (by first | exact Val.loadCAgg (n := 2) rfl rfl rfl rfl (Nat.le_of_ble_eq_true rfl) | exact Val.loadAgg (n := 2) rfl rfl rfl rfl (by simp [St.cellsAt, St.cellAt, St.root, valC]; rfl) rfl | exact Val.loadAgg (n := 2) rfl rfl rfl rfl rfl rfl) (by simp only [St.put, List.set_cons_succ, List.set_cons_zero, valC, dKept, rKept, D.row, List.take_succ_cons, List.take_zero, List.map_cons, List.map_nil]; rfl) ?_
      refine TL.opK rfl fun K hK => ?_
      refine OpT.callG rfl rfl rfl rfl rfl rfl ((laws_toKept_f x hsx).k) (by repeat first | exact .nil | refine Snaps.cons (.ro _) ?_ | refine Snaps.cons (.aggRo rfl) ?_ | refine Snaps.cons (.cptr _) ?_ | refine Snaps.cons (.fn _) ?_ | refine Snaps.cons (.ownRef rfl (by first | assumption | exact w_IntS _ | exact w_IntSS _ | exact w_SlotS _ | exact w_BoolS _ | exact w_InsS _ | exact w_GuestS _ | exact w_KeptS _ | exact w_MonS _ | exact w_EntryS _ | exact w_BareS _)) ?_ | refine Snaps.cons (.aggR (by repeat first | exact .nil | refine SnapCs.cons (.ro _) ?_ | refine SnapCs.cons (.ref rfl (by first | assumption | exact w_IntS _ | exact w_IntSS _ | exact w_SlotS _ | exact w_BoolS _ | exact w_InsS _ | exact w_GuestS _ | exact w_KeptS _ | exact w_MonS _ | exact w_EntryS _ | exact w_BareS _)) ?_)) ?_) rfl ?_
      simp only [nrm, Nat.reduceBEq, Nat.reduceBNe, reduceIte]
      refine hK _ ?_
      clear hK K
      refine TL.vE (by exact Val.index rfl rfl rfl rfl rfl rfl (by omega) (by simp [fill_len]; omega)) ?_
      refine TL.opK rfl fun K hK => ?_
      refine OpT.storeAgg rfl rfl rfl rfl rfl rfl (by first | (simp [St.store1, St.storeAll, St.cellAt, St.isMem, St.root, St.wrote, St.kill, St.setRoot, TS.kill, TV.kill, C.kill, Rt.kill, hitR, hitP, shapeOf, setRow, setAt, rowAt, D.row, D.reRow, List.isPrefixOf, List.getElem?_set_self', List.set_set, hg, hs]; rfl) | (simp [St.store1, St.storeAll, St.cellAt, St.isMem, St.root, St.wrote, St.kill, St.setRoot, TS.kill, TV.kill, C.kill, Rt.kill, hitR, hitP, shapeOf, setRow, setAt, rowAt, D.row, D.reRow, List.isPrefixOf, List.getElem?_set_self', List.set_set, hg2, hs2]; rfl)) ?_
      simp only [nrm, Nat.reduceBEq, Nat.reduceBNe, reduceIte]
      refine hK _ ?_
      clear hK K
      refine TL.nil ?_
      show TC _ _ _ _ _ _
      refine TC.region ?_
      refine TL.vE (Val.move 1 rfl rfl) ?_
      refine TL.vE (Val.addO rfl rfl rfl) ?_
      refine TL.vE (Val.assign 1 rfl rfl) ?_
      refine TL.nil ?_
      first | refine Seq.normal ⟨_, ?_, k + 1, ?_, rfl, ?_⟩ | refine Seq.normal (Q := fun _ _ => True) ⟨_, ?_, k + 1, ?_, rfl, ?_⟩
      · omega
      · omega
      · exact Can.to (by repeat first | exact LessT.nil | refine LessT.drop ?_ | refine LessT.keep ?_ | refine LessT.eq (by simp) ?_) (by repeat first | exact .nil | refine .cons rfl rfl ?_)
    have hk11 := hb
    refine TC.exit ?_
    show TC _ _ _ _ _ _
    refine TC.seq ?_
    refine TC.region ?_
    refine TL.vE (Val.move 1 rfl rfl) ?_
    refine TL.vE (Val.assign 1 rfl rfl) ?_
    refine TL.nil ?_
    show TC _ _ _ _ _ _
    refine TC.ret ?_
    exact ⟨.inr rfl, [_], [_], _, rfl, by decide, rfl, by simp [refV, refC, valC, C.kill, hitR], rfl, by simp at hb; rw [← fill_all (f := dKept) (z := (dKept (VKept.mk [] []))) (k := k) (by omega)]; rfl⟩

theorem laws_toMon_f (x : VMon) (hmx : SmMon x) : Fun Tryz.prog 23 [A (rMon x)] (RG [.a (rMon x)]) := by
  refine Fun.of Tryz.func23 rfl (by simp [Tryz.ntmps23]) fun w g0 => ?_
  simp only [Tryz.ntmps23, List.length_cons, List.length_nil, Nat.reduceAdd, Nat.reduceSub, List.replicate, List.cons_append, List.nil_append]
  refine TC.seq ?_
  refine TC.region ?_
  refine TL.opK rfl fun K hK => ?_
  first | refine OpT.box rfl rfl (z := 1) rfl (by simp) ?_ | refine OpT.boxAgg rfl rfl rfl ?_
  simp only [nrm, Nat.reduceBEq, Nat.reduceBNe, reduceIte]
  refine hK _ ?_
  clear hK K
  refine TL.opK rfl fun K hK => ?_
  refine OpT.alloc rfl rfl rfl rfl rfl rfl ?_
  simp only [nrm, Nat.reduceBEq, Nat.reduceBNe, reduceIte]
  refine hK _ ?_
  clear hK K
  refine TL.nil ?_
  show TC _ _ _ _ _ _
  refine TC.seq ?_
  refine TC.region ?_
  refine TL.opK rfl fun K hK => ?_
  refine OpT.alloc rfl rfl rfl rfl rfl rfl ?_
  simp only [nrm, Nat.reduceBEq, Nat.reduceBNe, reduceIte]
  refine hK _ ?_
  clear hK K
  refine TL.nil ?_
  show TC _ _ _ _ _ _
  refine TC.seq ?_
  refine TC.region ?_
  refine TL.fld ?_
  refine TL.ld ?_
  refine TL.opK rfl fun K hK => ?_
  refine OpT.callL rfl rfl rfl rfl rfl rfl ((laws_toSlotS_f x.Outer hmx.1).k) (by repeat first | exact .nil | refine Snaps.cons (.ro _) ?_ | refine Snaps.cons (.aggRo rfl) ?_ | refine Snaps.cons (.cptr _) ?_ | refine Snaps.cons (.fn _) ?_ | refine Snaps.cons (.ownRef rfl (by first | assumption | exact w_IntS _ | exact w_IntSS _ | exact w_SlotS _ | exact w_BoolS _ | exact w_InsS _ | exact w_GuestS _ | exact w_KeptS _ | exact w_MonS _ | exact w_EntryS _ | exact w_BareS _)) ?_ | refine Snaps.cons (.aggR (by repeat first | exact .nil | refine SnapCs.cons (.ro _) ?_ | refine SnapCs.cons (.ref rfl (by first | assumption | exact w_IntS _ | exact w_IntSS _ | exact w_SlotS _ | exact w_BoolS _ | exact w_InsS _ | exact w_GuestS _ | exact w_KeptS _ | exact w_MonS _ | exact w_EntryS _ | exact w_BareS _)) ?_)) ?_) ?_
  simp only [nrm, Nat.reduceBEq, Nat.reduceBNe, reduceIte]
  refine hK _ ?_
  clear hK K
  refine TL.fld ?_
  refine TL.opK rfl fun K hK => ?_
  refine OpT.store (z := 1) rfl rfl rfl rfl rfl rfl (by simp [St.store1, St.storeAll, St.cellAt, St.isMem, St.root, St.wrote, St.kill, St.setRoot, TS.kill, TV.kill, C.kill, Rt.kill, hitR, hitP, shapeOf, setRow, setAt, rowAt, D.row, D.reRow, List.isPrefixOf]; rfl) ?_ -- None
  simp only [nrm, Nat.reduceBEq, Nat.reduceBNe, reduceIte]
  refine hK _ ?_
  clear hK K
  refine TL.nil ?_
  show TC _ _ _ _ _ _
  refine TC.seq ?_
  refine TC.region ?_
  refine TL.fld ?_
  refine TL.ld ?_
  refine TL.opK rfl fun K hK => ?_
  refine OpT.callL rfl rfl rfl rfl rfl rfl ((laws_toIntSS_f x.Out hmx.2.1).k) (by repeat first | exact .nil | refine Snaps.cons (.ro _) ?_ | refine Snaps.cons (.aggRo rfl) ?_ | refine Snaps.cons (.cptr _) ?_ | refine Snaps.cons (.fn _) ?_ | refine Snaps.cons (.ownRef rfl (by first | assumption | exact w_IntS _ | exact w_IntSS _ | exact w_SlotS _ | exact w_BoolS _ | exact w_InsS _ | exact w_GuestS _ | exact w_KeptS _ | exact w_MonS _ | exact w_EntryS _ | exact w_BareS _)) ?_ | refine Snaps.cons (.aggR (by repeat first | exact .nil | refine SnapCs.cons (.ro _) ?_ | refine SnapCs.cons (.ref rfl (by first | assumption | exact w_IntS _ | exact w_IntSS _ | exact w_SlotS _ | exact w_BoolS _ | exact w_InsS _ | exact w_GuestS _ | exact w_KeptS _ | exact w_MonS _ | exact w_EntryS _ | exact w_BareS _)) ?_)) ?_) ?_
  simp only [nrm, Nat.reduceBEq, Nat.reduceBNe, reduceIte]
  refine hK _ ?_
  clear hK K
  refine TL.fld ?_
  refine TL.opK rfl fun K hK => ?_
  refine OpT.store (z := 1) rfl rfl rfl rfl rfl rfl (by simp [St.store1, St.storeAll, St.cellAt, St.isMem, St.root, St.wrote, St.kill, St.setRoot, TS.kill, TV.kill, C.kill, Rt.kill, hitR, hitP, shapeOf, setRow, setAt, rowAt, D.row, D.reRow, List.isPrefixOf]; rfl) ?_ -- None
  simp only [nrm, Nat.reduceBEq, Nat.reduceBNe, reduceIte]
  refine hK _ ?_
  clear hK K
  refine TL.nil ?_
  show TC _ _ _ _ _ _
  refine TC.seq ?_
  refine TC.region ?_
  refine TL.fld ?_
  refine TL.ld ?_
  refine TL.opK rfl fun K hK => ?_
  refine OpT.callL rfl rfl rfl rfl rfl rfl ((laws_toBoolS_f x.Dirty hmx.2.2.1).k) (by repeat first | exact .nil | refine Snaps.cons (.ro _) ?_ | refine Snaps.cons (.aggRo rfl) ?_ | refine Snaps.cons (.cptr _) ?_ | refine Snaps.cons (.fn _) ?_ | refine Snaps.cons (.ownRef rfl (by first | assumption | exact w_IntS _ | exact w_IntSS _ | exact w_SlotS _ | exact w_BoolS _ | exact w_InsS _ | exact w_GuestS _ | exact w_KeptS _ | exact w_MonS _ | exact w_EntryS _ | exact w_BareS _)) ?_ | refine Snaps.cons (.aggR (by repeat first | exact .nil | refine SnapCs.cons (.ro _) ?_ | refine SnapCs.cons (.ref rfl (by first | assumption | exact w_IntS _ | exact w_IntSS _ | exact w_SlotS _ | exact w_BoolS _ | exact w_InsS _ | exact w_GuestS _ | exact w_KeptS _ | exact w_MonS _ | exact w_EntryS _ | exact w_BareS _)) ?_)) ?_) ?_
  simp only [nrm, Nat.reduceBEq, Nat.reduceBNe, reduceIte]
  refine hK _ ?_
  clear hK K
  refine TL.fld ?_
  refine TL.opK rfl fun K hK => ?_
  refine OpT.store (z := 1) rfl rfl rfl rfl rfl rfl (by simp [St.store1, St.storeAll, St.cellAt, St.isMem, St.root, St.wrote, St.kill, St.setRoot, TS.kill, TV.kill, C.kill, Rt.kill, hitR, hitP, shapeOf, setRow, setAt, rowAt, D.row, D.reRow, List.isPrefixOf]; rfl) ?_ -- None
  simp only [nrm, Nat.reduceBEq, Nat.reduceBNe, reduceIte]
  refine hK _ ?_
  clear hK K
  refine TL.nil ?_
  show TC _ _ _ _ _ _
  refine TC.seq ?_
  refine TC.region ?_
  refine TL.fld ?_
  refine TL.ld ?_
  refine TL.opK rfl fun K hK => ?_
  refine OpT.callL rfl rfl rfl rfl rfl rfl ((laws_toGuestS_f x.Guests hmx.2.2.2.1).k) (by repeat first | exact .nil | refine Snaps.cons (.ro _) ?_ | refine Snaps.cons (.aggRo rfl) ?_ | refine Snaps.cons (.cptr _) ?_ | refine Snaps.cons (.fn _) ?_ | refine Snaps.cons (.ownRef rfl (by first | assumption | exact w_IntS _ | exact w_IntSS _ | exact w_SlotS _ | exact w_BoolS _ | exact w_InsS _ | exact w_GuestS _ | exact w_KeptS _ | exact w_MonS _ | exact w_EntryS _ | exact w_BareS _)) ?_ | refine Snaps.cons (.aggR (by repeat first | exact .nil | refine SnapCs.cons (.ro _) ?_ | refine SnapCs.cons (.ref rfl (by first | assumption | exact w_IntS _ | exact w_IntSS _ | exact w_SlotS _ | exact w_BoolS _ | exact w_InsS _ | exact w_GuestS _ | exact w_KeptS _ | exact w_MonS _ | exact w_EntryS _ | exact w_BareS _)) ?_)) ?_) ?_
  simp only [nrm, Nat.reduceBEq, Nat.reduceBNe, reduceIte]
  refine hK _ ?_
  clear hK K
  refine TL.fld ?_
  refine TL.opK rfl fun K hK => ?_
  refine OpT.store (z := 1) rfl rfl rfl rfl rfl rfl (by simp [St.store1, St.storeAll, St.cellAt, St.isMem, St.root, St.wrote, St.kill, St.setRoot, TS.kill, TV.kill, C.kill, Rt.kill, hitR, hitP, shapeOf, setRow, setAt, rowAt, D.row, D.reRow, List.isPrefixOf]; rfl) ?_ -- None
  simp only [nrm, Nat.reduceBEq, Nat.reduceBNe, reduceIte]
  refine hK _ ?_
  clear hK K
  refine TL.nil ?_
  show TC _ _ _ _ _ _
  refine TC.seq ?_
  refine TC.region ?_
  refine TL.fld ?_
  refine TL.ld ?_
  refine TL.opK rfl fun K hK => ?_
  refine OpT.callL rfl rfl rfl rfl rfl rfl ((laws_toIntS_f x.Outs hmx.2.2.2.2.1).k) (by repeat first | exact .nil | refine Snaps.cons (.ro _) ?_ | refine Snaps.cons (.aggRo rfl) ?_ | refine Snaps.cons (.cptr _) ?_ | refine Snaps.cons (.fn _) ?_ | refine Snaps.cons (.ownRef rfl (by first | assumption | exact w_IntS _ | exact w_IntSS _ | exact w_SlotS _ | exact w_BoolS _ | exact w_InsS _ | exact w_GuestS _ | exact w_KeptS _ | exact w_MonS _ | exact w_EntryS _ | exact w_BareS _)) ?_ | refine Snaps.cons (.aggR (by repeat first | exact .nil | refine SnapCs.cons (.ro _) ?_ | refine SnapCs.cons (.ref rfl (by first | assumption | exact w_IntS _ | exact w_IntSS _ | exact w_SlotS _ | exact w_BoolS _ | exact w_InsS _ | exact w_GuestS _ | exact w_KeptS _ | exact w_MonS _ | exact w_EntryS _ | exact w_BareS _)) ?_)) ?_) ?_
  simp only [nrm, Nat.reduceBEq, Nat.reduceBNe, reduceIte]
  refine hK _ ?_
  clear hK K
  refine TL.fld ?_
  refine TL.opK rfl fun K hK => ?_
  refine OpT.store (z := 1) rfl rfl rfl rfl rfl rfl (by simp [St.store1, St.storeAll, St.cellAt, St.isMem, St.root, St.wrote, St.kill, St.setRoot, TS.kill, TV.kill, C.kill, Rt.kill, hitR, hitP, shapeOf, setRow, setAt, rowAt, D.row, D.reRow, List.isPrefixOf]; rfl) ?_ -- None
  simp only [nrm, Nat.reduceBEq, Nat.reduceBNe, reduceIte]
  refine hK _ ?_
  clear hK K
  refine TL.nil ?_
  show TC _ _ _ _ _ _
  refine TC.seq ?_
  refine TC.region ?_
  refine TL.fld ?_
  refine TL.ld ?_
  refine TL.fld ?_
  refine TL.opK rfl fun K hK => ?_
  refine OpT.store (z := 1) rfl rfl rfl rfl rfl rfl (by simp [St.store1, St.storeAll, St.cellAt, St.isMem, St.root, St.wrote, St.kill, St.setRoot, TS.kill, TV.kill, C.kill, Rt.kill, hitR, hitP, shapeOf, setRow, setAt, rowAt, D.row, D.reRow, List.isPrefixOf]; rfl) ?_ -- None
  simp only [nrm, Nat.reduceBEq, Nat.reduceBNe, reduceIte]
  refine hK _ ?_
  clear hK K
  refine TL.nil ?_
  show TC _ _ _ _ _ _
  refine TC.seq ?_
  refine TC.region ?_
  refine TL.fld ?_
  refine TL.ld ?_
  refine TL.fld ?_
  refine TL.opK rfl fun K hK => ?_
  refine OpT.store (z := 1) rfl rfl rfl rfl rfl rfl (by simp [St.store1, St.storeAll, St.cellAt, St.isMem, St.root, St.wrote, St.kill, St.setRoot, TS.kill, TV.kill, C.kill, Rt.kill, hitR, hitP, shapeOf, setRow, setAt, rowAt, D.row, D.reRow, List.isPrefixOf]; rfl) ?_ -- None
  simp only [nrm, Nat.reduceBEq, Nat.reduceBNe, reduceIte]
  refine hK _ ?_
  clear hK K
  refine TL.nil ?_
  show TC _ _ _ _ _ _
  refine TC.seq ?_
  refine TC.region ?_
  refine TL.fld ?_
  refine TL.ld ?_
  refine TL.opK rfl fun K hK => ?_
  refine OpT.callL rfl rfl rfl rfl rfl rfl ((laws_toKeptS_f x.Tables hmx.2.2.2.2.2).k) (by repeat first | exact .nil | refine Snaps.cons (.ro _) ?_ | refine Snaps.cons (.aggRo rfl) ?_ | refine Snaps.cons (.cptr _) ?_ | refine Snaps.cons (.fn _) ?_ | refine Snaps.cons (.ownRef rfl (by first | assumption | exact w_IntS _ | exact w_IntSS _ | exact w_SlotS _ | exact w_BoolS _ | exact w_InsS _ | exact w_GuestS _ | exact w_KeptS _ | exact w_MonS _ | exact w_EntryS _ | exact w_BareS _)) ?_ | refine Snaps.cons (.aggR (by repeat first | exact .nil | refine SnapCs.cons (.ro _) ?_ | refine SnapCs.cons (.ref rfl (by first | assumption | exact w_IntS _ | exact w_IntSS _ | exact w_SlotS _ | exact w_BoolS _ | exact w_InsS _ | exact w_GuestS _ | exact w_KeptS _ | exact w_MonS _ | exact w_EntryS _ | exact w_BareS _)) ?_)) ?_) ?_
  simp only [nrm, Nat.reduceBEq, Nat.reduceBNe, reduceIte]
  refine hK _ ?_
  clear hK K
  refine TL.fld ?_
  refine TL.opK rfl fun K hK => ?_
  refine OpT.store (z := 1) rfl rfl rfl rfl rfl rfl (by simp [St.store1, St.storeAll, St.cellAt, St.isMem, St.root, St.wrote, St.kill, St.setRoot, TS.kill, TV.kill, C.kill, Rt.kill, hitR, hitP, shapeOf, setRow, setAt, rowAt, D.row, D.reRow, List.isPrefixOf]; rfl) ?_ -- None
  simp only [nrm, Nat.reduceBEq, Nat.reduceBNe, reduceIte]
  refine hK _ ?_
  clear hK K
  refine TL.nil ?_
  show TC _ _ _ _ _ _
  refine TC.seq ?_
  refine TC.region ?_
  refine TL.fld ?_
  refine TL.ld ?_
  refine TL.fld ?_
  refine TL.opK rfl fun K hK => ?_
  refine OpT.store (z := 1) rfl rfl rfl rfl rfl rfl (by simp [St.store1, St.storeAll, St.cellAt, St.isMem, St.root, St.wrote, St.kill, St.setRoot, TS.kill, TV.kill, C.kill, Rt.kill, hitR, hitP, shapeOf, setRow, setAt, rowAt, D.row, D.reRow, List.isPrefixOf]; rfl) ?_ -- None
  simp only [nrm, Nat.reduceBEq, Nat.reduceBNe, reduceIte]
  refine hK _ ?_
  clear hK K
  refine TL.nil ?_
  show TC _ _ _ _ _ _
  refine TC.seq ?_
  refine TC.region ?_
  refine TL.valE rfl (by first | exact Val.loadCAgg (n := 9) rfl rfl rfl rfl (Nat.le_of_ble_eq_true rfl) | exact Val.loadAgg (n := 9) rfl rfl rfl rfl (by simp [St.cellsAt, St.cellAt, St.root, valC]; rfl) rfl | exact Val.loadAgg (n := 9) rfl rfl rfl rfl rfl rfl) (by simp only [St.put, List.set_cons_succ, List.set_cons_zero, valC, dMon, rMon, D.row, List.take_succ_cons, List.take_zero, List.map_cons, List.map_nil]; rfl) ?_
  refine TL.opK rfl fun K hK => ?_
  refine OpT.storeAgg rfl rfl rfl rfl rfl rfl (by simp [St.store1, St.storeAll, St.cellAt, St.isMem, St.root, St.wrote, St.kill, St.setRoot, TS.kill, TV.kill, C.kill, Rt.kill, hitR, hitP, shapeOf, setRow, setAt, rowAt, D.row, D.reRow, List.isPrefixOf]; rfl) ?_ -- None
  simp only [nrm, Nat.reduceBEq, Nat.reduceBNe, reduceIte]
  refine hK _ ?_
  clear hK K
  refine TL.nil ?_
  show TC _ _ _ _ _ _
  refine TC.ret ?_
  exact ⟨.inr rfl, [_], [_], _, rfl, by decide, rfl, by simp [refV, refC, valC, C.kill, hitR], rfl, rfl⟩

theorem laws_toMonS_f (xs : List VMon) (hmx : SmMonS xs) : Fun Tryz.prog 39 [L 9 (xs.map dMon)] (RL 9 (xs.map dMon)) := by
  refine Fun.of Tryz.func39 rfl (by simp [Tryz.ntmps39]) fun w g0 => ?_
  simp only [Tryz.ntmps39, List.length_cons, List.length_nil, Nat.reduceAdd, Nat.reduceSub, List.replicate, List.cons_append, List.nil_append]
  have hlen : xs.length ≤ 1048576 := hmx.1
  refine TC.seq ?_
  refine TC.region ?_
  refine TL.vE (Val.assign 1 rfl rfl) ?_
  refine TL.nil ?_
  show TC _ _ _ _ _ _
  refine TC.seq ?_
  refine TC.region ?_
  refine TL.vE (Val.move 1 rfl rfl) ?_
  refine TL.vE (by first | exact Val.len rfl rfl rfl rfl | exact Val.lenS rfl rfl rfl) ?_
  refine TL.opK rfl fun K hK => ?_
  refine OpT.makeE (d := (dMon (VMon.mk [] [] [] [] [] 0 0 [] 0))) rfl rfl rfl rfl rfl rfl rfl (sz := 9) rfl rfl rfl rfl rfl rfl rfl (by omega) (by simp; omega) ?_
  simp only [nrm, Nat.reduceBEq, Nat.reduceBNe, reduceIte]
  refine hK _ ?_
  clear hK K
  refine TL.vE (Val.assign 1 rfl rfl) ?_
  refine TL.nil ?_
  show TC _ _ _ _ _ _
  refine TC.seq ?_
  refine TC.seq ?_
  refine TC.region ?_
  refine TL.vE (Val.assign 1 rfl rfl) ?_
  refine TL.nil ?_
  show TC _ _ _ _ _ _
  refine TC.block ?_
  refine TC.loop (fun μ st => ∃ k : Nat, (k ≤ xs.length) ∧ μ = xs.length - k ∧ Can st ⟨[L 9 (xs.map dMon), .one .dead, .one .dead, .one (.c (.ref ⟨7, [], 0⟩)), I k, .one .dead, .one .dead, .one .dead, .one .dead, .one .dead, .one .dead, .one .dead, .one .dead, .one .dead, .one .dead, .one .dead, .one .dead, .one .dead, .one .dead, .one .dead, .one .dead, .one .dead, .one .dead], [(7, ⟨false, [.own (.sl 9 (fill dMon (dMon (VMon.mk [] [] [] [] [] 0 0 [] 0)) xs k))]⟩)]⟩) (xs.length) ?_ fun μ st hI => ?_
  · refine ⟨0, by simp, by simp, ?_⟩
    exact Can.to (by repeat first | exact LessT.nil | refine LessT.drop ?_ | refine LessT.keep ?_ | refine LessT.eq (by simp) ?_) (.cons rfl (by simp [fill]) .nil)
  · obtain ⟨k, hyp, rfl, hcan⟩ := hI
    refine TC.can hcan ?_
    clear hcan
    refine TC.seq ?_
    refine TC.seq ?_
    refine TC.region ?_
    refine TL.vE (Val.move 1 rfl rfl) ?_
    refine TL.vE (Val.move 1 rfl rfl) ?_
    refine TL.vE (by first | exact Val.len rfl rfl rfl rfl | exact Val.lenS rfl rfl rfl) ?_
    refine TL.vE (Val.lss rfl rfl rfl) ?_
    refine TL.nil ?_
    show TC _ _ _ _ _ _
    refine TC.cond rfl (fun hb => ?_) (fun hb => ?_)
    · have hk11 := hb
      refine TC.skip ?_
      show TC _ _ _ _ _ _
      refine TC.seq ?_
      refine TC.block ?_
      have hk : k < xs.length := by simpa using hb
      obtain ⟨x, hx⟩ := at_of (xs := xs) (k := k) hk
      have hsx : SmMon x := hmx.2 x (List.mem_of_getElem? hx)
      have hg := fill_get (f := dMon) (z := (dMon (VMon.mk [] [] [] [] [] 0 0 [] 0))) hk
      have hs := fill_set (f := dMon) (z := (dMon (VMon.mk [] [] [] [] [] 0 0 [] 0))) hx
      have hg2 := hg
      have hs2 := hs
      simp only [dMon, rMon, List.map_nil] at hg2 hs2
      refine TC.region ?_
      refine TL.vE (Val.move 1 rfl rfl) ?_
      refine TL.vE (Val.move 1 rfl rfl) ?_
      refine TL.vE (Val.move 1 rfl rfl) ?_
      refine TL.vE (Val.move 1 rfl rfl) ?_
      refine TL.vE (by exact Val.indexC (d := dMon x) rfl rfl rfl rfl rfl (by omega) (by simp [hx])) ?_
      refine TL.valE rfl (by first | exact Val.loadCAgg (n := 9) rfl rfl rfl rfl (Nat.le_of_ble_eq_true rfl) | exact Val.loadAgg (n := 9) rfl rfl rfl rfl (by simp [St.cellsAt, St.cellAt, St.root, valC]; rfl) rfl | exact Val.loadAgg (n := 9) rfl rfl rfl rfl rfl rfl) (by simp only [St.put, List.set_cons_succ, List.set_cons_zero, valC, dMon, rMon, D.row, List.take_succ_cons, List.take_zero, List.map_cons, List.map_nil]; rfl) ?_
      refine TL.opK rfl fun K hK => ?_
      refine OpT.callG rfl rfl rfl rfl rfl rfl ((laws_toMon_f x hsx).k) (by repeat first | exact .nil | refine Snaps.cons (.ro _) ?_ | refine Snaps.cons (.aggRo rfl) ?_ | refine Snaps.cons (.cptr _) ?_ | refine Snaps.cons (.fn _) ?_ | refine Snaps.cons (.ownRef rfl (by first | assumption | exact w_IntS _ | exact w_IntSS _ | exact w_SlotS _ | exact w_BoolS _ | exact w_InsS _ | exact w_GuestS _ | exact w_KeptS _ | exact w_MonS _ | exact w_EntryS _ | exact w_BareS _)) ?_ | refine Snaps.cons (.aggR (by repeat first | exact .nil | refine SnapCs.cons (.ro _) ?_ | refine SnapCs.cons (.ref rfl (by first | assumption | exact w_IntS _ | exact w_IntSS _ | exact w_SlotS _ | exact w_BoolS _ | exact w_InsS _ | exact w_GuestS _ | exact w_KeptS _ | exact w_MonS _ | exact w_EntryS _ | exact w_BareS _)) ?_)) ?_) rfl ?_
      simp only [nrm, Nat.reduceBEq, Nat.reduceBNe, reduceIte]
      refine hK _ ?_
      clear hK K
      refine TL.vE (by exact Val.index rfl rfl rfl rfl rfl rfl (by omega) (by simp [fill_len]; omega)) ?_
      refine TL.opK rfl fun K hK => ?_
      refine OpT.storeAgg rfl rfl rfl rfl rfl rfl (by first | (simp [St.store1, St.storeAll, St.cellAt, St.isMem, St.root, St.wrote, St.kill, St.setRoot, TS.kill, TV.kill, C.kill, Rt.kill, hitR, hitP, shapeOf, setRow, setAt, rowAt, D.row, D.reRow, List.isPrefixOf, List.getElem?_set_self', List.set_set, hg, hs]; rfl) | (simp [St.store1, St.storeAll, St.cellAt, St.isMem, St.root, St.wrote, St.kill, St.setRoot, TS.kill, TV.kill, C.kill, Rt.kill, hitR, hitP, shapeOf, setRow, setAt, rowAt, D.row, D.reRow, List.isPrefixOf, List.getElem?_set_self', List.set_set, hg2, hs2]; rfl)) ?_
      simp only [nrm, Nat.reduceBEq, Nat.reduceBNe, reduceIte]
      refine hK _ ?_
      clear hK K
      refine TL.nil ?_
      show TC _ _ _ _ _ _
      refine TC.region ?_
      refine TL.vE (Val.move 1 rfl rfl) ?_
      refine TL.vE (Val.addO rfl rfl rfl) ?_
      refine TL.vE (Val.assign 1 rfl rfl) ?_
      refine TL.nil ?_
      first | refine Seq.normal ⟨_, ?_, k + 1, ?_, rfl, ?_⟩ | refine Seq.normal (Q := fun _ _ => True) ⟨_, ?_, k + 1, ?_, rfl, ?_⟩
      · omega
      · omega
      · exact Can.to (by repeat first | exact LessT.nil | refine LessT.drop ?_ | refine LessT.keep ?_ | refine LessT.eq (by simp) ?_) (by repeat first | exact .nil | refine .cons rfl rfl ?_)
    have hk11 := hb
    refine TC.exit ?_
    show TC _ _ _ _ _ _
    refine TC.seq ?_
    refine TC.region ?_
    refine TL.vE (Val.move 1 rfl rfl) ?_
    refine TL.vE (Val.assign 1 rfl rfl) ?_
    refine TL.nil ?_
    show TC _ _ _ _ _ _
    refine TC.ret ?_
    exact ⟨.inr rfl, [_], [_], _, rfl, by decide, rfl, by simp [refV, refC, valC, C.kill, hitR], rfl, by simp at hb; rw [← fill_all (f := dMon) (z := (dMon (VMon.mk [] [] [] [] [] 0 0 [] 0))) (k := k) (by omega)]; rfl⟩

theorem laws_toEntry_f (x : VEntry) : Fun Tryz.prog 113 [A (rEntry x)] (RP (A (rEntry x))) := by
  refine Fun.of Tryz.func113 rfl (by simp [Tryz.ntmps113]) fun w g0 => ?_
  simp only [Tryz.ntmps113, List.length_cons, List.length_nil, Nat.reduceAdd, Nat.reduceSub, List.replicate, List.cons_append, List.nil_append]
  refine TC.seq ?_
  refine TC.region ?_
  refine TL.opK rfl fun K hK => ?_
  first | refine OpT.box rfl rfl (z := 1) rfl (by simp) ?_ | refine OpT.boxAgg rfl rfl rfl ?_
  simp only [nrm, Nat.reduceBEq, Nat.reduceBNe, reduceIte]
  refine hK _ ?_
  clear hK K
  refine TL.opK rfl fun K hK => ?_
  refine OpT.alloc rfl rfl rfl rfl rfl rfl ?_
  simp only [nrm, Nat.reduceBEq, Nat.reduceBNe, reduceIte]
  refine hK _ ?_
  clear hK K
  refine TL.nil ?_
  show TC _ _ _ _ _ _
  refine TC.seq ?_
  refine TC.region ?_
  refine TL.opK rfl fun K hK => ?_
  refine OpT.alloc rfl rfl rfl rfl rfl rfl ?_
  simp only [nrm, Nat.reduceBEq, Nat.reduceBNe, reduceIte]
  refine hK _ ?_
  clear hK K
  refine TL.nil ?_
  show TC _ _ _ _ _ _
  refine TC.seq ?_
  refine TC.region ?_
  refine TL.fld ?_
  refine TL.ld ?_
  refine TL.fld ?_
  refine TL.opK rfl fun K hK => ?_
  refine OpT.store (z := 1) rfl rfl rfl rfl rfl rfl (by simp [St.store1, St.storeAll, St.cellAt, St.isMem, St.root, St.wrote, St.kill, St.setRoot, TS.kill, TV.kill, C.kill, Rt.kill, hitR, hitP, shapeOf, setRow, setAt, rowAt, D.row, D.reRow, List.isPrefixOf]; rfl) ?_ -- None
  simp only [nrm, Nat.reduceBEq, Nat.reduceBNe, reduceIte]
  refine hK _ ?_
  clear hK K
  refine TL.nil ?_
  show TC _ _ _ _ _ _
  refine TC.seq ?_
  refine TC.region ?_
  refine TL.fld ?_
  refine TL.ld ?_
  refine TL.fld ?_
  refine TL.opK rfl fun K hK => ?_
  refine OpT.store (z := 1) rfl rfl rfl rfl rfl rfl (by simp [St.store1, St.storeAll, St.cellAt, St.isMem, St.root, St.wrote, St.kill, St.setRoot, TS.kill, TV.kill, C.kill, Rt.kill, hitR, hitP, shapeOf, setRow, setAt, rowAt, D.row, D.reRow, List.isPrefixOf]; rfl) ?_ -- None
  simp only [nrm, Nat.reduceBEq, Nat.reduceBNe, reduceIte]
  refine hK _ ?_
  clear hK K
  refine TL.nil ?_
  show TC _ _ _ _ _ _
  refine TC.seq ?_
  refine TC.region ?_
  refine TL.fld ?_
  refine TL.ld ?_
  refine TL.fld ?_
  refine TL.opK rfl fun K hK => ?_
  refine OpT.store (z := 1) rfl rfl rfl rfl rfl rfl (by simp [St.store1, St.storeAll, St.cellAt, St.isMem, St.root, St.wrote, St.kill, St.setRoot, TS.kill, TV.kill, C.kill, Rt.kill, hitR, hitP, shapeOf, setRow, setAt, rowAt, D.row, D.reRow, List.isPrefixOf]; rfl) ?_ -- None
  simp only [nrm, Nat.reduceBEq, Nat.reduceBNe, reduceIte]
  refine hK _ ?_
  clear hK K
  refine TL.nil ?_
  show TC _ _ _ _ _ _
  refine TC.seq ?_
  refine TC.region ?_
  refine TL.fld ?_
  refine TL.ld ?_
  refine TL.fld ?_
  refine TL.opK rfl fun K hK => ?_
  refine OpT.store (z := 1) rfl rfl rfl rfl rfl rfl (by simp [St.store1, St.storeAll, St.cellAt, St.isMem, St.root, St.wrote, St.kill, St.setRoot, TS.kill, TV.kill, C.kill, Rt.kill, hitR, hitP, shapeOf, setRow, setAt, rowAt, D.row, D.reRow, List.isPrefixOf]; rfl) ?_ -- None
  simp only [nrm, Nat.reduceBEq, Nat.reduceBNe, reduceIte]
  refine hK _ ?_
  clear hK K
  refine TL.nil ?_
  show TC _ _ _ _ _ _
  refine TC.seq ?_
  refine TC.region ?_
  refine TL.valE rfl (by first | exact Val.loadCAgg (n := 4) rfl rfl rfl rfl (Nat.le_of_ble_eq_true rfl) | exact Val.loadAgg (n := 4) rfl rfl rfl rfl (by simp [St.cellsAt, St.cellAt, St.root, valC]; rfl) rfl | exact Val.loadAgg (n := 4) rfl rfl rfl rfl rfl rfl) (by simp only [St.put, List.set_cons_succ, List.set_cons_zero, valC, dEntry, rEntry, D.row, List.take_succ_cons, List.take_zero, List.map_cons, List.map_nil]; rfl) ?_
  refine TL.opK rfl fun K hK => ?_
  refine OpT.storeAgg rfl rfl rfl rfl rfl rfl (by simp [St.store1, St.storeAll, St.cellAt, St.isMem, St.root, St.wrote, St.kill, St.setRoot, TS.kill, TV.kill, C.kill, Rt.kill, hitR, hitP, shapeOf, setRow, setAt, rowAt, D.row, D.reRow, List.isPrefixOf]; rfl) ?_ -- None
  simp only [nrm, Nat.reduceBEq, Nat.reduceBNe, reduceIte]
  refine hK _ ?_
  clear hK K
  refine TL.nil ?_
  show TC _ _ _ _ _ _
  refine TC.ret ?_
  exact ⟨.inr rfl, [_], [_], _, rfl, by decide, rfl, by simp [refV, refC, valC, C.kill, hitR], rfl, rfl⟩

theorem laws_toEntryS_f (xs : List VEntry) (hmx : SmEntryS xs) : Fun Tryz.prog 40 [L 4 (xs.map dEntry)] (RL 4 (xs.map dEntry)) := by
  refine Fun.of Tryz.func40 rfl (by simp [Tryz.ntmps40]) fun w g0 => ?_
  simp only [Tryz.ntmps40, List.length_cons, List.length_nil, Nat.reduceAdd, Nat.reduceSub, List.replicate, List.cons_append, List.nil_append]
  have hlen : xs.length ≤ 1048576 := hmx
  refine TC.seq ?_
  refine TC.region ?_
  refine TL.vE (Val.assign 1 rfl rfl) ?_
  refine TL.nil ?_
  show TC _ _ _ _ _ _
  refine TC.seq ?_
  refine TC.region ?_
  refine TL.vE (Val.move 1 rfl rfl) ?_
  refine TL.vE (by first | exact Val.len rfl rfl rfl rfl | exact Val.lenS rfl rfl rfl) ?_
  refine TL.opK rfl fun K hK => ?_
  refine OpT.makeE (d := (dEntry (VEntry.mk 0 0 0 0))) rfl rfl rfl rfl rfl rfl rfl (sz := 4) rfl rfl rfl rfl rfl rfl rfl (by omega) (by simp; omega) ?_
  simp only [nrm, Nat.reduceBEq, Nat.reduceBNe, reduceIte]
  refine hK _ ?_
  clear hK K
  refine TL.vE (Val.assign 1 rfl rfl) ?_
  refine TL.nil ?_
  show TC _ _ _ _ _ _
  refine TC.seq ?_
  refine TC.seq ?_
  refine TC.region ?_
  refine TL.vE (Val.assign 1 rfl rfl) ?_
  refine TL.nil ?_
  show TC _ _ _ _ _ _
  refine TC.block ?_
  refine TC.loop (fun μ st => ∃ k : Nat, (k ≤ xs.length) ∧ μ = xs.length - k ∧ Can st ⟨[L 4 (xs.map dEntry), .one .dead, .one .dead, .one (.c (.ref ⟨7, [], 0⟩)), I k, .one .dead, .one .dead, .one .dead, .one .dead, .one .dead, .one .dead, .one .dead, .one .dead, .one .dead, .one .dead, .one .dead, .one .dead, .one .dead, .one .dead, .one .dead, .one .dead, .one .dead, .one .dead], [(7, ⟨false, [.own (.sl 4 (fill dEntry (dEntry (VEntry.mk 0 0 0 0)) xs k))]⟩)]⟩) (xs.length) ?_ fun μ st hI => ?_
  · refine ⟨0, by simp, by simp, ?_⟩
    exact Can.to (by repeat first | exact LessT.nil | refine LessT.drop ?_ | refine LessT.keep ?_ | refine LessT.eq (by simp) ?_) (.cons rfl (by simp [fill]) .nil)
  · obtain ⟨k, hyp, rfl, hcan⟩ := hI
    refine TC.can hcan ?_
    clear hcan
    refine TC.seq ?_
    refine TC.seq ?_
    refine TC.region ?_
    refine TL.vE (Val.move 1 rfl rfl) ?_
    refine TL.vE (Val.move 1 rfl rfl) ?_
    refine TL.vE (by first | exact Val.len rfl rfl rfl rfl | exact Val.lenS rfl rfl rfl) ?_
    refine TL.vE (Val.lss rfl rfl rfl) ?_
    refine TL.nil ?_
    show TC _ _ _ _ _ _
    refine TC.cond rfl (fun hb => ?_) (fun hb => ?_)
    · have hk11 := hb
      refine TC.skip ?_
      show TC _ _ _ _ _ _
      refine TC.seq ?_
      refine TC.block ?_
      have hk : k < xs.length := by simpa using hb
      obtain ⟨x, hx⟩ := at_of (xs := xs) (k := k) hk
      have hg := fill_get (f := dEntry) (z := (dEntry (VEntry.mk 0 0 0 0))) hk
      have hs := fill_set (f := dEntry) (z := (dEntry (VEntry.mk 0 0 0 0))) hx
      refine TC.region ?_
      refine TL.vE (Val.move 1 rfl rfl) ?_
      refine TL.vE (Val.move 1 rfl rfl) ?_
      refine TL.vE (Val.move 1 rfl rfl) ?_
      refine TL.vE (Val.move 1 rfl rfl) ?_
      refine TL.vE (by exact Val.indexC (d := dEntry x) rfl rfl rfl rfl rfl (by omega) (by simp [hx])) ?_
      refine TL.valE rfl (by first | exact Val.loadCAgg (n := 4) rfl rfl rfl rfl (Nat.le_of_ble_eq_true rfl) | exact Val.loadAgg (n := 4) rfl rfl rfl rfl (by simp [St.cellsAt, St.cellAt, St.root, valC]; rfl) rfl | exact Val.loadAgg (n := 4) rfl rfl rfl rfl rfl rfl) (by simp only [St.put, List.set_cons_succ, List.set_cons_zero, valC, dEntry, rEntry, D.row, List.take_succ_cons, List.take_zero, List.map_cons, List.map_nil]; rfl) ?_
      refine TL.callF (yes_none rfl) rfl rfl rfl rfl rfl rfl ((laws_toEntry_f x).k) (by repeat first | exact .nil | refine Snaps.cons (.ro _) ?_ | refine Snaps.cons (.aggRo rfl) ?_ | refine Snaps.cons (.cptr _) ?_ | refine Snaps.cons (.fn _) ?_ | refine Snaps.cons (.ownRef rfl (by first | assumption | exact w_IntS _ | exact w_IntSS _ | exact w_SlotS _ | exact w_BoolS _ | exact w_InsS _ | exact w_GuestS _ | exact w_KeptS _ | exact w_MonS _ | exact w_EntryS _ | exact w_BareS _)) ?_ | refine Snaps.cons (.aggR (by repeat first | exact .nil | refine SnapCs.cons (.ro _) ?_ | refine SnapCs.cons (.ref rfl (by first | assumption | exact w_IntS _ | exact w_IntSS _ | exact w_SlotS _ | exact w_BoolS _ | exact w_InsS _ | exact w_GuestS _ | exact w_KeptS _ | exact w_MonS _ | exact w_EntryS _ | exact w_BareS _)) ?_)) ?_) rfl (by simp only [nput]; rfl) ?_
      refine TL.vE (by exact Val.index rfl rfl rfl rfl rfl rfl (by omega) (by simp [fill_len]; omega)) ?_
      refine TL.opK rfl fun K hK => ?_
      refine OpT.storeAgg rfl rfl rfl rfl rfl rfl (by simp [St.store1, St.storeAll, St.cellAt, St.isMem, St.root, St.wrote, St.kill, St.setRoot, TS.kill, TV.kill, C.kill, Rt.kill, hitR, hitP, shapeOf, setRow, setAt, rowAt, D.row, D.reRow, List.isPrefixOf, List.getElem?_set_self', List.set_set, hg, hs]; rfl) ?_
      simp only [nrm, Nat.reduceBEq, Nat.reduceBNe, reduceIte]
      refine hK _ ?_
      clear hK K
      refine TL.nil ?_
      show TC _ _ _ _ _ _
      refine TC.region ?_
      refine TL.vE (Val.move 1 rfl rfl) ?_
      refine TL.vE (Val.addO rfl rfl rfl) ?_
      refine TL.vE (Val.assign 1 rfl rfl) ?_
      refine TL.nil ?_
      first | refine Seq.normal ⟨_, ?_, k + 1, ?_, rfl, ?_⟩ | refine Seq.normal (Q := fun _ _ => True) ⟨_, ?_, k + 1, ?_, rfl, ?_⟩
      · omega
      · omega
      · exact Can.to (by repeat first | exact LessT.nil | refine LessT.drop ?_ | refine LessT.keep ?_ | refine LessT.eq (by simp) ?_) (by repeat first | exact .nil | refine .cons rfl rfl ?_)
    have hk11 := hb
    refine TC.exit ?_
    show TC _ _ _ _ _ _
    refine TC.seq ?_
    refine TC.region ?_
    refine TL.vE (Val.move 1 rfl rfl) ?_
    refine TL.vE (Val.assign 1 rfl rfl) ?_
    refine TL.nil ?_
    show TC _ _ _ _ _ _
    refine TC.ret ?_
    exact ⟨.inr rfl, [_], [_], _, rfl, by decide, rfl, by simp [refV, refC, valC, C.kill, hitR], rfl, by simp at hb; rw [← fill_all (f := dEntry) (z := (dEntry (VEntry.mk 0 0 0 0))) (k := k) (by omega)]; rfl⟩

theorem laws_toHost_f (x : VHost) (hmx : SmHost x) : Fun Tryz.prog 9 [A (rHost x)] (RG [.a (rHost x)]) := by
  refine Fun.of Tryz.func9 rfl (by simp [Tryz.ntmps9]) fun w g0 => ?_
  simp only [Tryz.ntmps9, List.length_cons, List.length_nil, Nat.reduceAdd, Nat.reduceSub, List.replicate, List.cons_append, List.nil_append]
  refine TC.seq ?_
  refine TC.region ?_
  refine TL.opK rfl fun K hK => ?_
  first | refine OpT.box rfl rfl (z := 1) rfl (by simp) ?_ | refine OpT.boxAgg rfl rfl rfl ?_
  simp only [nrm, Nat.reduceBEq, Nat.reduceBNe, reduceIte]
  refine hK _ ?_
  clear hK K
  refine TL.opK rfl fun K hK => ?_
  refine OpT.alloc rfl rfl rfl rfl rfl rfl ?_
  simp only [nrm, Nat.reduceBEq, Nat.reduceBNe, reduceIte]
  refine hK _ ?_
  clear hK K
  refine TL.nil ?_
  show TC _ _ _ _ _ _
  refine TC.seq ?_
  refine TC.region ?_
  refine TL.opK rfl fun K hK => ?_
  refine OpT.alloc rfl rfl rfl rfl rfl rfl ?_
  simp only [nrm, Nat.reduceBEq, Nat.reduceBNe, reduceIte]
  refine hK _ ?_
  clear hK K
  refine TL.nil ?_
  show TC _ _ _ _ _ _
  refine TC.seq ?_
  refine TC.region ?_
  refine TL.fld ?_
  refine TL.ld ?_
  refine TL.opK rfl fun K hK => ?_
  refine OpT.callL rfl rfl rfl rfl rfl rfl ((laws_toIntSS_f x.Memory hmx.1).k) (by repeat first | exact .nil | refine Snaps.cons (.ro _) ?_ | refine Snaps.cons (.aggRo rfl) ?_ | refine Snaps.cons (.cptr _) ?_ | refine Snaps.cons (.fn _) ?_ | refine Snaps.cons (.ownRef rfl (by first | assumption | exact w_IntS _ | exact w_IntSS _ | exact w_SlotS _ | exact w_BoolS _ | exact w_InsS _ | exact w_GuestS _ | exact w_KeptS _ | exact w_MonS _ | exact w_EntryS _ | exact w_BareS _)) ?_ | refine Snaps.cons (.aggR (by repeat first | exact .nil | refine SnapCs.cons (.ro _) ?_ | refine SnapCs.cons (.ref rfl (by first | assumption | exact w_IntS _ | exact w_IntSS _ | exact w_SlotS _ | exact w_BoolS _ | exact w_InsS _ | exact w_GuestS _ | exact w_KeptS _ | exact w_MonS _ | exact w_EntryS _ | exact w_BareS _)) ?_)) ?_) ?_
  simp only [nrm, Nat.reduceBEq, Nat.reduceBNe, reduceIte]
  refine hK _ ?_
  clear hK K
  refine TL.fld ?_
  refine TL.opK rfl fun K hK => ?_
  refine OpT.store (z := 1) rfl rfl rfl rfl rfl rfl (by simp [St.store1, St.storeAll, St.cellAt, St.isMem, St.root, St.wrote, St.kill, St.setRoot, TS.kill, TV.kill, C.kill, Rt.kill, hitR, hitP, shapeOf, setRow, setAt, rowAt, D.row, D.reRow, List.isPrefixOf]; rfl) ?_ -- None
  simp only [nrm, Nat.reduceBEq, Nat.reduceBNe, reduceIte]
  refine hK _ ?_
  clear hK K
  refine TL.nil ?_
  show TC _ _ _ _ _ _
  refine TC.seq ?_
  refine TC.region ?_
  refine TL.fld ?_
  refine TL.ld ?_
  refine TL.opK rfl fun K hK => ?_
  refine OpT.callL rfl rfl rfl rfl rfl rfl ((laws_toMonS_f x.Mons hmx.2.1).k) (by repeat first | exact .nil | refine Snaps.cons (.ro _) ?_ | refine Snaps.cons (.aggRo rfl) ?_ | refine Snaps.cons (.cptr _) ?_ | refine Snaps.cons (.fn _) ?_ | refine Snaps.cons (.ownRef rfl (by first | assumption | exact w_IntS _ | exact w_IntSS _ | exact w_SlotS _ | exact w_BoolS _ | exact w_InsS _ | exact w_GuestS _ | exact w_KeptS _ | exact w_MonS _ | exact w_EntryS _ | exact w_BareS _)) ?_ | refine Snaps.cons (.aggR (by repeat first | exact .nil | refine SnapCs.cons (.ro _) ?_ | refine SnapCs.cons (.ref rfl (by first | assumption | exact w_IntS _ | exact w_IntSS _ | exact w_SlotS _ | exact w_BoolS _ | exact w_InsS _ | exact w_GuestS _ | exact w_KeptS _ | exact w_MonS _ | exact w_EntryS _ | exact w_BareS _)) ?_)) ?_) ?_
  simp only [nrm, Nat.reduceBEq, Nat.reduceBNe, reduceIte]
  refine hK _ ?_
  clear hK K
  refine TL.fld ?_
  refine TL.opK rfl fun K hK => ?_
  refine OpT.store (z := 1) rfl rfl rfl rfl rfl rfl (by simp [St.store1, St.storeAll, St.cellAt, St.isMem, St.root, St.wrote, St.kill, St.setRoot, TS.kill, TV.kill, C.kill, Rt.kill, hitR, hitP, shapeOf, setRow, setAt, rowAt, D.row, D.reRow, List.isPrefixOf]; rfl) ?_ -- None
  simp only [nrm, Nat.reduceBEq, Nat.reduceBNe, reduceIte]
  refine hK _ ?_
  clear hK K
  refine TL.nil ?_
  show TC _ _ _ _ _ _
  refine TC.seq ?_
  refine TC.region ?_
  refine TL.fld ?_
  refine TL.ld ?_
  refine TL.opK rfl fun K hK => ?_
  refine OpT.callL rfl rfl rfl rfl rfl rfl ((laws_toEntryS_f x.Buffer hmx.2.2.1).k) (by repeat first | exact .nil | refine Snaps.cons (.ro _) ?_ | refine Snaps.cons (.aggRo rfl) ?_ | refine Snaps.cons (.cptr _) ?_ | refine Snaps.cons (.fn _) ?_ | refine Snaps.cons (.ownRef rfl (by first | assumption | exact w_IntS _ | exact w_IntSS _ | exact w_SlotS _ | exact w_BoolS _ | exact w_InsS _ | exact w_GuestS _ | exact w_KeptS _ | exact w_MonS _ | exact w_EntryS _ | exact w_BareS _)) ?_ | refine Snaps.cons (.aggR (by repeat first | exact .nil | refine SnapCs.cons (.ro _) ?_ | refine SnapCs.cons (.ref rfl (by first | assumption | exact w_IntS _ | exact w_IntSS _ | exact w_SlotS _ | exact w_BoolS _ | exact w_InsS _ | exact w_GuestS _ | exact w_KeptS _ | exact w_MonS _ | exact w_EntryS _ | exact w_BareS _)) ?_)) ?_) ?_
  simp only [nrm, Nat.reduceBEq, Nat.reduceBNe, reduceIte]
  refine hK _ ?_
  clear hK K
  refine TL.fld ?_
  refine TL.opK rfl fun K hK => ?_
  refine OpT.store (z := 1) rfl rfl rfl rfl rfl rfl (by simp [St.store1, St.storeAll, St.cellAt, St.isMem, St.root, St.wrote, St.kill, St.setRoot, TS.kill, TV.kill, C.kill, Rt.kill, hitR, hitP, shapeOf, setRow, setAt, rowAt, D.row, D.reRow, List.isPrefixOf]; rfl) ?_ -- None
  simp only [nrm, Nat.reduceBEq, Nat.reduceBNe, reduceIte]
  refine hK _ ?_
  clear hK K
  refine TL.nil ?_
  show TC _ _ _ _ _ _
  refine TC.seq ?_
  refine TC.region ?_
  refine TL.fld ?_
  refine TL.ld ?_
  refine TL.opK rfl fun K hK => ?_
  refine OpT.callL rfl rfl rfl rfl rfl rfl ((laws_toEntryS_f x.IoBuffer hmx.2.2.2).k) (by repeat first | exact .nil | refine Snaps.cons (.ro _) ?_ | refine Snaps.cons (.aggRo rfl) ?_ | refine Snaps.cons (.cptr _) ?_ | refine Snaps.cons (.fn _) ?_ | refine Snaps.cons (.ownRef rfl (by first | assumption | exact w_IntS _ | exact w_IntSS _ | exact w_SlotS _ | exact w_BoolS _ | exact w_InsS _ | exact w_GuestS _ | exact w_KeptS _ | exact w_MonS _ | exact w_EntryS _ | exact w_BareS _)) ?_ | refine Snaps.cons (.aggR (by repeat first | exact .nil | refine SnapCs.cons (.ro _) ?_ | refine SnapCs.cons (.ref rfl (by first | assumption | exact w_IntS _ | exact w_IntSS _ | exact w_SlotS _ | exact w_BoolS _ | exact w_InsS _ | exact w_GuestS _ | exact w_KeptS _ | exact w_MonS _ | exact w_EntryS _ | exact w_BareS _)) ?_)) ?_) ?_
  simp only [nrm, Nat.reduceBEq, Nat.reduceBNe, reduceIte]
  refine hK _ ?_
  clear hK K
  refine TL.fld ?_
  refine TL.opK rfl fun K hK => ?_
  refine OpT.store (z := 1) rfl rfl rfl rfl rfl rfl (by simp [St.store1, St.storeAll, St.cellAt, St.isMem, St.root, St.wrote, St.kill, St.setRoot, TS.kill, TV.kill, C.kill, Rt.kill, hitR, hitP, shapeOf, setRow, setAt, rowAt, D.row, D.reRow, List.isPrefixOf]; rfl) ?_ -- None
  simp only [nrm, Nat.reduceBEq, Nat.reduceBNe, reduceIte]
  refine hK _ ?_
  clear hK K
  refine TL.nil ?_
  show TC _ _ _ _ _ _
  refine TC.seq ?_
  refine TC.region ?_
  refine TL.valE rfl (by first | exact Val.loadCAgg (n := 4) rfl rfl rfl rfl (Nat.le_of_ble_eq_true rfl) | exact Val.loadAgg (n := 4) rfl rfl rfl rfl (by simp [St.cellsAt, St.cellAt, St.root, valC]; rfl) rfl | exact Val.loadAgg (n := 4) rfl rfl rfl rfl rfl rfl) (by simp only [St.put, List.set_cons_succ, List.set_cons_zero, valC, dHost, rHost, D.row, List.take_succ_cons, List.take_zero, List.map_cons, List.map_nil]; rfl) ?_
  refine TL.opK rfl fun K hK => ?_
  refine OpT.storeAgg rfl rfl rfl rfl rfl rfl (by simp [St.store1, St.storeAll, St.cellAt, St.isMem, St.root, St.wrote, St.kill, St.setRoot, TS.kill, TV.kill, C.kill, Rt.kill, hitR, hitP, shapeOf, setRow, setAt, rowAt, D.row, D.reRow, List.isPrefixOf]; rfl) ?_ -- None
  simp only [nrm, Nat.reduceBEq, Nat.reduceBNe, reduceIte]
  refine hK _ ?_
  clear hK K
  refine TL.nil ?_
  show TC _ _ _ _ _ _
  refine TC.ret ?_
  exact ⟨.inr rfl, [_], [_], _, rfl, by decide, rfl, by simp [refV, refC, valC, C.kill, hitR], rfl, rfl⟩

end Go.Proofs.YtldollgpolklpaaGreat.T

