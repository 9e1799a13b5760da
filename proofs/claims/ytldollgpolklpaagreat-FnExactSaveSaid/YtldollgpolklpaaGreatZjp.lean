/- Hosts copied by the program. PRINTED by gen.py out of spec_host2.py. -/
import Derived.Test.YtldollgpolklpaaGreatT3p
import Derived.Test.YtldollgpolklpaaGreatZgp
namespace Go.Proofs.YtldollgpolklpaaGreat.T
open Go
set_option linter.unusedVariables false
set_option linter.unusedSimpArgs false
set_option maxRecDepth 100000
set_option maxHeartbeats 4000000

theorem impl_copyInts_f (xs : List Int) (hx : SmIntS xs) : Fun Tryz.prog 68 [L 1 (xs.map dInt)] (RL 1 (xs.map dInt)) := by
  refine Fun.of Tryz.func68 rfl (by simp [Tryz.ntmps68]) fun w g0 => ?_
  simp only [Tryz.ntmps68, List.length_cons, List.length_nil, Nat.reduceAdd, Nat.reduceSub, List.replicate, List.cons_append, List.nil_append]
  refine TC.seq ?_
  refine TC.region ?_
  refine TL.vE (Val.assign 1 rfl rfl) ?_
  refine TL.nil ?_
  show TC _ _ _ _ _ _
  refine TC.seq ?_
  refine TC.region ?_
  refine TL.opK rfl fun K hK => ?_
  refine OpT.build0 (sz := 1) rfl rfl rfl rfl ?_
  simp only [nrm, Nat.reduceBEq, Nat.reduceBNe, reduceIte]
  refine hK _ ?_
  clear hK K
  refine TL.vE (Val.move 1 rfl rfl) ?_
  refine TL.opK rfl fun K hK => ?_
  refine OpT.appendE rfl rfl rfl (sz := 1) rfl rfl rfl (by intro d hd; obtain ⟨z, _, rfl⟩ := List.mem_map.1 hd; intro c hc; simp only [D.row, rSlot, rIns, List.mem_cons, List.not_mem_nil, or_false] at hc; first | exact ⟨_, hc⟩ | (rcases hc with hc | hc <;> exact ⟨_, hc⟩)) rfl rfl rfl rfl rfl rfl rfl (by have h9 : xs.length ≤ 1048576 := hx; simp; omega) ?_
  simp only [nrm, Nat.reduceBEq, Nat.reduceBNe, reduceIte]
  refine hK _ ?_
  clear hK K
  refine TL.vE (Val.assign 1 rfl rfl) ?_
  refine TL.nil ?_
  show TC _ _ _ _ _ _
  refine TC.ret ?_
  exact ⟨.inr rfl, [_], [_], _, rfl, by decide, rfl, by simp [refV, refC, valC, C.kill, hitR], rfl, rfl⟩

theorem impl_copyTable_f (xs : List VSlot) (hx : SmSlotS xs) : Fun Tryz.prog 150 [L 2 (xs.map dSlot)] (RL 2 (xs.map dSlot)) := by
  refine Fun.of Tryz.func150 rfl (by simp [Tryz.ntmps150]) fun w g0 => ?_
  simp only [Tryz.ntmps150, List.length_cons, List.length_nil, Nat.reduceAdd, Nat.reduceSub, List.replicate, List.cons_append, List.nil_append]
  refine TC.seq ?_
  refine TC.region ?_
  refine TL.vE (Val.assign 1 rfl rfl) ?_
  refine TL.nil ?_
  show TC _ _ _ _ _ _
  refine TC.seq ?_
  refine TC.region ?_
  refine TL.opK rfl fun K hK => ?_
  refine OpT.build0 (sz := 2) rfl rfl rfl rfl ?_
  simp only [nrm, Nat.reduceBEq, Nat.reduceBNe, reduceIte]
  refine hK _ ?_
  clear hK K
  refine TL.vE (Val.move 1 rfl rfl) ?_
  refine TL.opK rfl fun K hK => ?_
  refine OpT.appendE rfl rfl rfl (sz := 2) rfl rfl rfl (by intro d hd; obtain ⟨z, _, rfl⟩ := List.mem_map.1 hd; intro c hc; simp only [D.row, rSlot, rIns, List.mem_cons, List.not_mem_nil, or_false] at hc; first | exact ⟨_, hc⟩ | (rcases hc with hc | hc <;> exact ⟨_, hc⟩)) rfl rfl rfl rfl rfl rfl rfl (by have h9 : xs.length ≤ 1048576 := hx; simp; omega) ?_
  simp only [nrm, Nat.reduceBEq, Nat.reduceBNe, reduceIte]
  refine hK _ ?_
  clear hK K
  refine TL.vE (Val.assign 1 rfl rfl) ?_
  refine TL.nil ?_
  show TC _ _ _ _ _ _
  refine TC.ret ?_
  exact ⟨.inr rfl, [_], [_], _, rfl, by decide, rfl, by simp [refV, refC, valC, C.kill, hitR], rfl, rfl⟩

theorem impl_copyProg_f (xs : List VIns) (hx : SmInsS xs) : Fun Tryz.prog 164 [L 2 (xs.map dIns)] (RL 2 (xs.map dIns)) := by
  refine Fun.of Tryz.func164 rfl (by simp [Tryz.ntmps164]) fun w g0 => ?_
  simp only [Tryz.ntmps164, List.length_cons, List.length_nil, Nat.reduceAdd, Nat.reduceSub, List.replicate, List.cons_append, List.nil_append]
  refine TC.seq ?_
  refine TC.region ?_
  refine TL.vE (Val.assign 1 rfl rfl) ?_
  refine TL.nil ?_
  show TC _ _ _ _ _ _
  refine TC.seq ?_
  refine TC.region ?_
  refine TL.opK rfl fun K hK => ?_
  refine OpT.build0 (sz := 2) rfl rfl rfl rfl ?_
  simp only [nrm, Nat.reduceBEq, Nat.reduceBNe, reduceIte]
  refine hK _ ?_
  clear hK K
  refine TL.vE (Val.move 1 rfl rfl) ?_
  refine TL.opK rfl fun K hK => ?_
  refine OpT.appendE rfl rfl rfl (sz := 2) rfl rfl rfl (by intro d hd; obtain ⟨z, _, rfl⟩ := List.mem_map.1 hd; intro c hc; simp only [D.row, rSlot, rIns, List.mem_cons, List.not_mem_nil, or_false] at hc; first | exact ⟨_, hc⟩ | (rcases hc with hc | hc <;> exact ⟨_, hc⟩)) rfl rfl rfl rfl rfl rfl rfl (by have h9 : xs.length ≤ 1048576 := hx; simp; omega) ?_
  simp only [nrm, Nat.reduceBEq, Nat.reduceBNe, reduceIte]
  refine hK _ ?_
  clear hK K
  refine TL.vE (Val.assign 1 rfl rfl) ?_
  refine TL.nil ?_
  show TC _ _ _ _ _ _
  refine TC.ret ?_
  exact ⟨.inr rfl, [_], [_], _, rfl, by decide, rfl, by simp [refV, refC, valC, C.kill, hitR], rfl, rfl⟩

theorem impl_copyKept_f (x : VKept) (hx : SmKept x) : Fun Tryz.prog 151 [A (rKept x)] (RG [.a (rKept x)]) := by
  refine Fun.of Tryz.func151 rfl (by simp [Tryz.ntmps151]) fun w g0 => ?_
  simp only [Tryz.ntmps151, List.length_cons, List.length_nil, Nat.reduceAdd, Nat.reduceSub, List.replicate, List.cons_append, List.nil_append]
  refine TC.seq ?_
  refine TC.region ?_
  refine TL.opK rfl fun K hK => ?_
  first | refine OpT.box rfl rfl (z := 1) rfl (by simp) ?_ | refine OpT.boxAgg rfl rfl rfl ?_
  simp only [nrm, Nat.reduceBEq, Nat.reduceBNe, reduceIte]
  refine hK _ ?_
  clear hK K
  refine TL.opK rfl fun K hK => ?_
  refine OpT.alloc rfl rfl rfl rfl rfl rfl ?_
  simp only [nrm, Nat.reduceBEq, Nat.reduceBNe, reduceIte]
  refine hK _ ?_
  clear hK K
  refine TL.nil ?_
  show TC _ _ _ _ _ _
  refine TC.seq ?_
  refine TC.regionV [3, 8] [3] [1] [(1, 2), (2, 2), (4, 2), (5, 2), (0, 1), (3, 1), (6, 1), (7, 0), (8, 1)] rfl (by decide +kernel) ?_
  refine TU.valS (by decide) rfl (yes_none rfl) (by first | exact ValS.field rfl rfl rfl | exact ValS.fieldC rfl rfl rfl) (by simp only [nput, npf, Nat.reduceAdd]; rfl) ?_
  refine TU.valS (by decide) rfl (yes_none rfl) (by exact ValS.load rfl rfl 1 (by decide) rfl rfl rfl rfl) (by simp only [nput, valC]; rfl) ?_
  refine TU.valS (by decide) rfl (yes_none rfl) (by first | exact ValS.field rfl rfl rfl | exact ValS.fieldC rfl rfl rfl) (by simp only [nput, npf, Nat.reduceAdd]; rfl) ?_
  refine TU.valS (by decide) rfl (yes_none rfl) (by exact ValS.load rfl rfl 1 (by decide) rfl rfl rfl rfl) (by simp only [nput, valC]; rfl) ?_
  refine TU.opM (by decide) rfl (yes_none rfl) fun K hK => ?_
  refine OpM.of (build_value rfl) (fun w0 g0 => ⟨_, OpT.build0 (sz := 1) rfl rfl rfl rfl rfl⟩) ?_
  refine OpT.build0 (sz := 1) rfl rfl rfl rfl ?_
  simp only [nrm, Nat.reduceBEq, Nat.reduceBNe, reduceIte]
  refine hK _ ?_
  clear hK K
  refine TU.opB [3] (by decide) rfl (yes_none rfl) rfl (.cons rfl rfl rfl rfl .nil) (fun w0 g0 => ⟨_, OpT.appendE rfl rfl rfl (sz := 1) rfl rfl rfl (by intro d hd; obtain ⟨z, _, rfl⟩ := List.mem_map.1 hd; intro c hc; simp only [D.row, rSlot, rIns, List.mem_cons, List.not_mem_nil, or_false] at hc; first | exact ⟨_, hc⟩ | (rcases hc with hc | hc <;> exact ⟨_, hc⟩)) rfl rfl rfl rfl rfl rfl rfl (by have h9 : x.Known.length ≤ 1048576 := hx.1; simp; omega) rfl⟩) fun K hK => ?_
  refine OpT.appendE rfl rfl rfl (sz := 1) rfl rfl rfl (by intro d hd; obtain ⟨z, _, rfl⟩ := List.mem_map.1 hd; intro c hc; simp only [D.row, rSlot, rIns, List.mem_cons, List.not_mem_nil, or_false] at hc; first | exact ⟨_, hc⟩ | (rcases hc with hc | hc <;> exact ⟨_, hc⟩)) rfl rfl rfl rfl rfl rfl rfl (by have h9 : x.Known.length ≤ 1048576 := hx.1; simp; omega) ?_
  simp only [nrm, Nat.reduceBEq, Nat.reduceBNe, reduceIte]
  refine hK _ ?_
  clear hK K
  refine TU.opM (by decide) rfl (yes_none rfl) fun K hK => ?_
  refine OpM.callL rfl rfl rfl rfl rfl rfl rfl ((impl_copyTable_f x.Slots hx.2).k) (by repeat first | exact .nil | refine Snaps.cons (.ro _) ?_ | refine Snaps.cons (.aggRo rfl) ?_ | refine Snaps.cons (.cptr _) ?_ | refine Snaps.cons (.fn _) ?_ | refine Snaps.cons (.ownRef rfl (by first | assumption | exact w_IntS _ | exact w_IntSS _ | exact w_SlotS _ | exact w_BoolS _ | exact w_InsS _ | exact w_GuestS _ | exact w_KeptS _ | exact w_MonS _ | exact w_EntryS _ | exact w_BareS _)) ?_ | refine Snaps.cons (.aggR (by repeat first | exact .nil | refine SnapCs.cons (.ro _) ?_ | refine SnapCs.cons (.ref rfl (by first | assumption | exact w_IntS _ | exact w_IntSS _ | exact w_SlotS _ | exact w_BoolS _ | exact w_InsS _ | exact w_GuestS _ | exact w_KeptS _ | exact w_MonS _ | exact w_EntryS _ | exact w_BareS _)) ?_)) ?_) ?_
  simp only [nrm, Nat.reduceBEq, Nat.reduceBNe, reduceIte]
  refine hK _ ?_
  clear hK K
  refine TU.valE (by decide) rfl (yes_none rfl) (Val.build (parts := [(0, (Go.Operand.tmp 6)), (1, (Go.Operand.tmp 9))]) (place := [(0, 1), (1, 1)]) rfl rfl rfl rfl rfl rfl rfl rfl rfl (by simp [fillC]; rfl)) (by simp only [nput]; rfl) ?_
  refine TU.opK (by decide) rfl (yes_none rfl) fun K hK => ?_
  refine OpT.storeAgg rfl rfl rfl rfl rfl rfl (by simp [St.store1, St.storeAll, St.cellAt, St.isMem, St.root, St.wrote, St.kill, St.setRoot, TS.kill, TV.kill, C.kill, Rt.kill, hitR, hitP, shapeOf, setRow, setAt, rowAt, D.row, D.reRow, List.isPrefixOf]; rfl) ?_ -- None
  simp only [nrm, Nat.reduceBEq, Nat.reduceBNe, reduceIte]
  refine hK _ ?_
  clear hK K
  refine TU.nil ?_
  show TC _ _ _ _ _ _
  refine TC.ret ?_
  exact ⟨.inr rfl, [_], [_], _, rfl, by decide, rfl, by simp [refV, refC, valC, C.kill, hitR], rfl, rfl⟩

theorem impl_copyGuest_f (x : VGuest) (hx : SmGuest x) : Fun Tryz.prog 128 [A (rGuest x)] (RG [.a (rGuest x)]) := by
  refine Fun.of Tryz.func128 rfl (by simp [Tryz.ntmps128]) fun w g0 => ?_
  simp only [Tryz.ntmps128, List.length_cons, List.length_nil, Nat.reduceAdd, Nat.reduceSub, List.replicate, List.cons_append, List.nil_append]
  refine TC.seq ?_
  refine TC.region ?_
  refine TL.opK rfl fun K hK => ?_
  first | refine OpT.box rfl rfl (z := 1) rfl (by simp) ?_ | refine OpT.boxAgg rfl rfl rfl ?_
  simp only [nrm, Nat.reduceBEq, Nat.reduceBNe, reduceIte]
  refine hK _ ?_
  clear hK K
  refine TL.opK rfl fun K hK => ?_
  refine OpT.alloc rfl rfl rfl rfl rfl rfl ?_
  simp only [nrm, Nat.reduceBEq, Nat.reduceBNe, reduceIte]
  refine hK _ ?_
  clear hK K
  refine TL.nil ?_
  show TC _ _ _ _ _ _
  refine TC.seq ?_
  refine TC.region ?_
  refine TL.fld ?_
  refine TL.ld ?_
  refine TL.opK rfl fun K hK => ?_
  refine OpT.callL rfl rfl rfl rfl rfl rfl ((impl_copyProg_f x.Prog hx.1).k) (by repeat first | exact .nil | refine Snaps.cons (.ro _) ?_ | refine Snaps.cons (.aggRo rfl) ?_ | refine Snaps.cons (.cptr _) ?_ | refine Snaps.cons (.fn _) ?_ | refine Snaps.cons (.ownRef rfl (by first | assumption | exact w_IntS _ | exact w_IntSS _ | exact w_SlotS _ | exact w_BoolS _ | exact w_InsS _ | exact w_GuestS _ | exact w_KeptS _ | exact w_MonS _ | exact w_EntryS _ | exact w_BareS _)) ?_ | refine Snaps.cons (.aggR (by repeat first | exact .nil | refine SnapCs.cons (.ro _) ?_ | refine SnapCs.cons (.ref rfl (by first | assumption | exact w_IntS _ | exact w_IntSS _ | exact w_SlotS _ | exact w_BoolS _ | exact w_InsS _ | exact w_GuestS _ | exact w_KeptS _ | exact w_MonS _ | exact w_EntryS _ | exact w_BareS _)) ?_)) ?_) ?_
  simp only [nrm, Nat.reduceBEq, Nat.reduceBNe, reduceIte]
  refine hK _ ?_
  clear hK K
  refine TL.fld ?_
  refine TL.opK rfl fun K hK => ?_
  refine OpT.store (z := 1) rfl rfl rfl rfl rfl rfl (by simp [St.store1, St.storeAll, St.cellAt, St.isMem, St.root, St.wrote, St.kill, St.setRoot, TS.kill, TV.kill, C.kill, Rt.kill, hitR, hitP, shapeOf, setRow, setAt, rowAt, D.row, D.reRow, List.isPrefixOf]; rfl) ?_ -- None
  simp only [nrm, Nat.reduceBEq, Nat.reduceBNe, reduceIte]
  refine hK _ ?_
  clear hK K
  refine TL.nil ?_
  show TC _ _ _ _ _ _
  refine TC.seq ?_
  refine TC.region ?_
  refine TL.fld ?_
  refine TL.ld ?_
  refine TL.opK rfl fun K hK => ?_
  refine OpT.callL rfl rfl rfl rfl rfl rfl ((impl_copyTable_f x.Written hx.2.1).k) (by repeat first | exact .nil | refine Snaps.cons (.ro _) ?_ | refine Snaps.cons (.aggRo rfl) ?_ | refine Snaps.cons (.cptr _) ?_ | refine Snaps.cons (.fn _) ?_ | refine Snaps.cons (.ownRef rfl (by first | assumption | exact w_IntS _ | exact w_IntSS _ | exact w_SlotS _ | exact w_BoolS _ | exact w_InsS _ | exact w_GuestS _ | exact w_KeptS _ | exact w_MonS _ | exact w_EntryS _ | exact w_BareS _)) ?_ | refine Snaps.cons (.aggR (by repeat first | exact .nil | refine SnapCs.cons (.ro _) ?_ | refine SnapCs.cons (.ref rfl (by first | assumption | exact w_IntS _ | exact w_IntSS _ | exact w_SlotS _ | exact w_BoolS _ | exact w_InsS _ | exact w_GuestS _ | exact w_KeptS _ | exact w_MonS _ | exact w_EntryS _ | exact w_BareS _)) ?_)) ?_) ?_
  simp only [nrm, Nat.reduceBEq, Nat.reduceBNe, reduceIte]
  refine hK _ ?_
  clear hK K
  refine TL.fld ?_
  refine TL.opK rfl fun K hK => ?_
  refine OpT.store (z := 1) rfl rfl rfl rfl rfl rfl (by simp [St.store1, St.storeAll, St.cellAt, St.isMem, St.root, St.wrote, St.kill, St.setRoot, TS.kill, TV.kill, C.kill, Rt.kill, hitR, hitP, shapeOf, setRow, setAt, rowAt, D.row, D.reRow, List.isPrefixOf]; rfl) ?_ -- None
  simp only [nrm, Nat.reduceBEq, Nat.reduceBNe, reduceIte]
  refine hK _ ?_
  clear hK K
  refine TL.nil ?_
  show TC _ _ _ _ _ _
  refine TC.seq ?_
  refine TC.region ?_
  refine TL.fld ?_
  refine TL.ld ?_
  refine TL.opK rfl fun K hK => ?_
  refine OpT.callL rfl rfl rfl rfl rfl rfl ((impl_copyTable_f x.Live hx.2.2.1).k) (by repeat first | exact .nil | refine Snaps.cons (.ro _) ?_ | refine Snaps.cons (.aggRo rfl) ?_ | refine Snaps.cons (.cptr _) ?_ | refine Snaps.cons (.fn _) ?_ | refine Snaps.cons (.ownRef rfl (by first | assumption | exact w_IntS _ | exact w_IntSS _ | exact w_SlotS _ | exact w_BoolS _ | exact w_InsS _ | exact w_GuestS _ | exact w_KeptS _ | exact w_MonS _ | exact w_EntryS _ | exact w_BareS _)) ?_ | refine Snaps.cons (.aggR (by repeat first | exact .nil | refine SnapCs.cons (.ro _) ?_ | refine SnapCs.cons (.ref rfl (by first | assumption | exact w_IntS _ | exact w_IntSS _ | exact w_SlotS _ | exact w_BoolS _ | exact w_InsS _ | exact w_GuestS _ | exact w_KeptS _ | exact w_MonS _ | exact w_EntryS _ | exact w_BareS _)) ?_)) ?_) ?_
  simp only [nrm, Nat.reduceBEq, Nat.reduceBNe, reduceIte]
  refine hK _ ?_
  clear hK K
  refine TL.fld ?_
  refine TL.opK rfl fun K hK => ?_
  refine OpT.store (z := 1) rfl rfl rfl rfl rfl rfl (by simp [St.store1, St.storeAll, St.cellAt, St.isMem, St.root, St.wrote, St.kill, St.setRoot, TS.kill, TV.kill, C.kill, Rt.kill, hitR, hitP, shapeOf, setRow, setAt, rowAt, D.row, D.reRow, List.isPrefixOf]; rfl) ?_ -- None
  simp only [nrm, Nat.reduceBEq, Nat.reduceBNe, reduceIte]
  refine hK _ ?_
  clear hK K
  refine TL.nil ?_
  show TC _ _ _ _ _ _
  refine TC.seq ?_
  refine TC.region ?_
  refine TL.fld ?_
  refine TL.ld ?_
  refine TL.opK rfl fun K hK => ?_
  refine OpT.callL rfl rfl rfl rfl rfl rfl ((impl_copyInts_f x.Seen hx.2.2.2).k) (by repeat first | exact .nil | refine Snaps.cons (.ro _) ?_ | refine Snaps.cons (.aggRo rfl) ?_ | refine Snaps.cons (.cptr _) ?_ | refine Snaps.cons (.fn _) ?_ | refine Snaps.cons (.ownRef rfl (by first | assumption | exact w_IntS _ | exact w_IntSS _ | exact w_SlotS _ | exact w_BoolS _ | exact w_InsS _ | exact w_GuestS _ | exact w_KeptS _ | exact w_MonS _ | exact w_EntryS _ | exact w_BareS _)) ?_ | refine Snaps.cons (.aggR (by repeat first | exact .nil | refine SnapCs.cons (.ro _) ?_ | refine SnapCs.cons (.ref rfl (by first | assumption | exact w_IntS _ | exact w_IntSS _ | exact w_SlotS _ | exact w_BoolS _ | exact w_InsS _ | exact w_GuestS _ | exact w_KeptS _ | exact w_MonS _ | exact w_EntryS _ | exact w_BareS _)) ?_)) ?_) ?_
  simp only [nrm, Nat.reduceBEq, Nat.reduceBNe, reduceIte]
  refine hK _ ?_
  clear hK K
  refine TL.fld ?_
  refine TL.opK rfl fun K hK => ?_
  refine OpT.store (z := 1) rfl rfl rfl rfl rfl rfl (by simp [St.store1, St.storeAll, St.cellAt, St.isMem, St.root, St.wrote, St.kill, St.setRoot, TS.kill, TV.kill, C.kill, Rt.kill, hitR, hitP, shapeOf, setRow, setAt, rowAt, D.row, D.reRow, List.isPrefixOf]; rfl) ?_ -- None
  simp only [nrm, Nat.reduceBEq, Nat.reduceBNe, reduceIte]
  refine hK _ ?_
  clear hK K
  refine TL.nil ?_
  show TC _ _ _ _ _ _
  refine TC.seq ?_
  refine TC.region ?_
  refine TL.valE rfl (by first | exact Val.loadCAgg (n := 15) rfl rfl rfl rfl (Nat.le_of_ble_eq_true rfl) | exact Val.loadAgg (n := 15) rfl rfl rfl rfl (by simp [St.cellsAt, St.cellAt, St.root, valC]; rfl) rfl | exact Val.loadAgg (n := 15) rfl rfl rfl rfl rfl rfl) (by simp only [St.put, List.set_cons_succ, List.set_cons_zero, valC, dGuest, rGuest, D.row, List.take_succ_cons, List.take_zero, List.map_cons, List.map_nil]; rfl) ?_
  refine TL.opK rfl fun K hK => ?_
  refine OpT.storeAgg rfl rfl rfl rfl rfl rfl (by simp [St.store1, St.storeAll, St.cellAt, St.isMem, St.root, St.wrote, St.kill, St.setRoot, TS.kill, TV.kill, C.kill, Rt.kill, hitR, hitP, shapeOf, setRow, setAt, rowAt, D.row, D.reRow, List.isPrefixOf]; rfl) ?_ -- None
  simp only [nrm, Nat.reduceBEq, Nat.reduceBNe, reduceIte]
  refine hK _ ?_
  clear hK K
  refine TL.nil ?_
  show TC _ _ _ _ _ _
  refine TC.ret ?_
  exact ⟨.inr rfl, [_], [_], _, rfl, by decide, rfl, by simp [refV, refC, valC, C.kill, hitR], rfl, rfl⟩

theorem impl_copyGuests_f (xs : List VGuest) (hx : SmGuestS xs) : Fun Tryz.prog 67 [L 15 (xs.map dGuest)] (RL 15 (xs.map dGuest)) := by
  refine Fun.of Tryz.func67 rfl (by simp [Tryz.ntmps67]) fun w g0 => ?_
  simp only [Tryz.ntmps67, List.length_cons, List.length_nil, Nat.reduceAdd, Nat.reduceSub, List.replicate, List.cons_append, List.nil_append]
  have hlen : xs.length ≤ 1048576 := hx.1
  refine TC.seq ?_
  refine TC.region ?_
  refine TL.vE (Val.assign 1 rfl rfl) ?_
  refine TL.nil ?_
  show TC _ _ _ _ _ _
  refine TC.seq ?_
  refine TC.region ?_
  refine TL.opK rfl fun K hK => ?_
  refine OpT.build0 (sz := 15) rfl rfl rfl rfl ?_
  simp only [nrm, Nat.reduceBEq, Nat.reduceBNe, reduceIte]
  refine hK _ ?_
  clear hK K
  refine TL.vE (Val.assign 1 rfl rfl) ?_
  refine TL.nil ?_
  show TC _ _ _ _ _ _
  refine TC.seq ?_
  refine TC.seq ?_
  refine TC.region ?_
  refine TL.vE (Val.move 1 rfl rfl) ?_
  refine TL.vE (by first | exact Val.len rfl rfl rfl rfl | exact Val.lenS rfl rfl rfl) ?_
  refine TL.vE (Val.move 1 rfl rfl) ?_
  refine TL.nil ?_
  show TC _ _ _ _ _ _
  refine TC.block ?_
  refine TC.loop (fun μ st => ∃ i : Nat, (i ≤ xs.length) ∧ μ = xs.length - i ∧ Can st ⟨[.one .dead, .one .dead, .one .dead, .one (.c (.ref ⟨3, [], 0⟩)), .one .dead, .one .dead, .one .dead, L 15 (xs.map dGuest), I (xs.map dGuest).length, I i, .one .dead, .one .dead, .one .dead, .one .dead, .one .dead, .one .dead, .one .dead, .one .dead, .one .dead, .one .dead], [(3, ⟨false, [.own (.sl 15 ((xs.take i).map dGuest))]⟩)]⟩) (xs.length) ?_ fun μ st hI => ?_
  · refine ⟨0, by simp, by simp, ?_⟩
    exact Can.name 6 3 (by simp only [St.name, nameS, nameV, nameC, nameR, List.map_cons, List.map_nil, Nat.reduceEqDiff, if_true, if_false, ne_eq, not_true, not_false, and_true, and_false, true_and, false_and, reduceIte]; rfl) (Can.too (.cons rfl (by simp) .nil))
  · obtain ⟨i, hyp, rfl, hcan⟩ := hI
    refine TC.can hcan ?_
    clear hcan
    refine TC.seq ?_
    refine TC.region ?_
    refine TL.vE (Val.lss rfl rfl rfl) ?_
    refine TL.nil ?_
    show TC _ _ _ _ _ _
    refine TC.seq ?_
    refine TC.cond rfl (fun hb => ?_) (fun hb => ?_)
    · have hk10 := hb
      refine TC.skip ?_
      show TC _ _ _ _ _ _
      refine TC.seq ?_
      refine TC.block ?_
      refine TC.seq ?_
      have hi : i < xs.length := by simpa using hb
      obtain ⟨y, hy⟩ := at_of (xs := xs) (k := i) hi
      have hy9 : SmGuest y := hx.2 y (List.mem_of_getElem? hy)
      refine TC.region ?_
      refine TL.vE (by exact Val.indexC (d := dGuest y) rfl rfl rfl rfl rfl (by omega) (by simp [hy])) ?_
      refine TL.valE rfl (by first | exact Val.loadCAgg (n := 15) rfl rfl rfl rfl (Nat.le_of_ble_eq_true rfl) | exact Val.loadAgg (n := 15) rfl rfl rfl rfl (by simp [St.cellsAt, St.cellAt, St.root, valC]; rfl) rfl | exact Val.loadAgg (n := 15) rfl rfl rfl rfl rfl rfl) (by simp only [St.put, List.set_cons_succ, List.set_cons_zero, valC, dGuest, rGuest, D.row, List.take_succ_cons, List.take_zero, List.map_cons, List.map_nil]; rfl) ?_
      refine TL.opK rfl fun K hK => ?_
      refine OpT.alloc rfl rfl rfl rfl rfl rfl ?_
      simp only [nrm, Nat.reduceBEq, Nat.reduceBNe, reduceIte]
      refine hK _ ?_
      clear hK K
      refine TL.opK rfl fun K hK => ?_
      refine OpT.storeAgg rfl rfl rfl rfl rfl rfl (by simp [St.store1, St.storeAll, St.cellAt, St.isMem, St.root, St.wrote, St.kill, St.setRoot, TS.kill, TV.kill, C.kill, Rt.kill, hitR, hitP, shapeOf, setRow, setAt, rowAt, D.row, D.reRow, List.isPrefixOf]; rfl) ?_ -- None
      simp only [nrm, Nat.reduceBEq, Nat.reduceBNe, reduceIte]
      refine hK _ ?_
      clear hK K
      refine TL.nil ?_
      show TC _ _ _ _ _ _
      refine TC.region ?_
      refine TL.vE (Val.move 1 rfl rfl) ?_
      refine TL.valE rfl (by first | exact Val.loadCAgg (n := 15) rfl rfl rfl rfl (Nat.le_of_ble_eq_true rfl) | exact Val.loadAgg (n := 15) rfl rfl rfl rfl (by simp [St.cellsAt, St.cellAt, St.root, valC]; rfl) rfl | exact Val.loadAgg (n := 15) rfl rfl rfl rfl rfl rfl) (by simp only [St.put, List.set_cons_succ, List.set_cons_zero, valC, dGuest, rGuest, D.row, List.take_succ_cons, List.take_zero, List.map_cons, List.map_nil]; rfl) ?_
      refine TL.opK rfl fun K hK => ?_
      refine OpT.callG rfl rfl rfl rfl rfl rfl ((impl_copyGuest_f y hy9).k) (by repeat first | exact .nil | refine Snaps.cons (.ro _) ?_ | refine Snaps.cons (.aggRo rfl) ?_ | refine Snaps.cons (.cptr _) ?_ | refine Snaps.cons (.fn _) ?_ | refine Snaps.cons (.ownRef rfl (by first | assumption | exact w_IntS _ | exact w_IntSS _ | exact w_SlotS _ | exact w_BoolS _ | exact w_InsS _ | exact w_GuestS _ | exact w_KeptS _ | exact w_MonS _ | exact w_EntryS _ | exact w_BareS _)) ?_ | refine Snaps.cons (.aggR (by repeat first | exact .nil | refine SnapCs.cons (.ro _) ?_ | refine SnapCs.cons (.ref rfl (by first | assumption | exact w_IntS _ | exact w_IntSS _ | exact w_SlotS _ | exact w_BoolS _ | exact w_InsS _ | exact w_GuestS _ | exact w_KeptS _ | exact w_MonS _ | exact w_EntryS _ | exact w_BareS _)) ?_)) ?_) rfl ?_
      simp only [nrm, Nat.reduceBEq, Nat.reduceBNe, reduceIte]
      refine hK _ ?_
      clear hK K
      refine TL.opK rfl fun K hK => ?_
      refine OpT.build1 rfl rfl (z := 0) rfl rfl rfl rfl rfl (by decide) (by decide) (by simp [St.adopt, cellsV, elD, cellD, St.renew, St.store1, St.storeAll, St.cellAt, St.isMem, St.root, St.wrote, St.kill, St.setRoot, TS.kill, TV.kill, C.kill, Rt.kill, hitR, hitP, shapeOf, setRow, setAt, rowAt, D.row, D.reRow, List.isPrefixOf]; rfl) ?_
      simp only [nrm, Nat.reduceBEq, Nat.reduceBNe, reduceIte]
      refine hK _ ?_
      clear hK K
      refine TL.opK rfl fun K hK => ?_
      refine OpT.appendOE rfl rfl rfl rfl rfl rfl (by decide) (by simp [D.row]) rfl rfl rfl rfl rfl rfl rfl (by simp; omega) ?_
      simp only [nrm, Nat.reduceBEq, Nat.reduceBNe, reduceIte]
      refine hK _ ?_
      clear hK K
      refine TL.vE (Val.assign 1 rfl rfl) ?_
      refine TL.nil ?_
      show TC _ _ _ _ _ _
      refine TC.region ?_
      refine TL.vE (Val.addO rfl rfl rfl) ?_
      refine TL.vE (Val.move 1 rfl rfl) ?_
      refine TL.nil ?_
      first | refine Seq.normal ⟨_, ?_, i + 1, ?_, rfl, ?_⟩ | refine Seq.normal (Q := fun _ _ => True) ⟨_, ?_, i + 1, ?_, rfl, ?_⟩
      · omega
      · omega
      · exact Can.name 17 3 (by simp only [St.name, nameS, nameV, nameC, nameR, List.map_cons, List.map_nil, Nat.reduceEqDiff, if_true, if_false, ne_eq, not_true, not_false, and_true, and_false, true_and, false_and, reduceIte]; rfl) (Can.too (.cons rfl (by simp [elD, cellD, List.take_add_one, hy]) .nil))
    have hk10 := hb
    refine TC.exit ?_
    show TC _ _ _ _ _ _
    refine TC.seq ?_
    have hie : xs.length ≤ i := by simp at hb; omega
    rw [List.take_of_length_le hie]
    refine TC.region ?_
    refine TL.vE (Val.move 1 rfl rfl) ?_
    refine TL.vE (Val.assign 1 rfl rfl) ?_
    refine TL.nil ?_
    show TC _ _ _ _ _ _
    refine TC.ret ?_
    exact ⟨.inr rfl, [_], [_], _, rfl, by decide, rfl, by simp [refV, refC, valC, C.kill, hitR], rfl, rfl⟩

theorem impl_copyMem_f (xs : List (List Int)) (hx : SmIntSS xs) : Fun Tryz.prog 66 [L 1 (xs.map dIntS)] (RL 1 (xs.map dIntS)) := by
  refine Fun.of Tryz.func66 rfl (by simp [Tryz.ntmps66]) fun w g0 => ?_
  simp only [Tryz.ntmps66, List.length_cons, List.length_nil, Nat.reduceAdd, Nat.reduceSub, List.replicate, List.cons_append, List.nil_append]
  have hlen : xs.length ≤ 1048576 := hx.1
  refine TC.seq ?_
  refine TC.region ?_
  refine TL.vE (Val.assign 1 rfl rfl) ?_
  refine TL.nil ?_
  show TC _ _ _ _ _ _
  refine TC.seq ?_
  refine TC.region ?_
  refine TL.opK rfl fun K hK => ?_
  refine OpT.build0 (sz := 1) rfl rfl rfl rfl ?_
  simp only [nrm, Nat.reduceBEq, Nat.reduceBNe, reduceIte]
  refine hK _ ?_
  clear hK K
  refine TL.vE (Val.assign 1 rfl rfl) ?_
  refine TL.nil ?_
  show TC _ _ _ _ _ _
  refine TC.seq ?_
  refine TC.seq ?_
  refine TC.region ?_
  refine TL.vE (Val.move 1 rfl rfl) ?_
  refine TL.vE (by first | exact Val.len rfl rfl rfl rfl | exact Val.lenS rfl rfl rfl) ?_
  refine TL.vE (Val.move 1 rfl rfl) ?_
  refine TL.nil ?_
  show TC _ _ _ _ _ _
  refine TC.block ?_
  refine TC.loop (fun μ st => ∃ i : Nat, (i ≤ xs.length) ∧ μ = xs.length - i ∧ Can st ⟨[.one .dead, .one .dead, .one .dead, .one (.c (.ref ⟨3, [], 0⟩)), .one .dead, .one .dead, .one .dead, L 1 (xs.map dIntS), I (xs.map dIntS).length, I i, .one .dead, .one .dead, .one .dead, .one .dead, .one .dead, .one .dead, .one .dead, .one .dead, .one .dead, .one .dead], [(3, ⟨false, [.own (.sl 1 ((xs.take i).map dIntS))]⟩)]⟩) (xs.length) ?_ fun μ st hI => ?_
  · refine ⟨0, by simp, by simp, ?_⟩
    exact Can.name 6 3 (by simp only [St.name, nameS, nameV, nameC, nameR, List.map_cons, List.map_nil, Nat.reduceEqDiff, if_true, if_false, ne_eq, not_true, not_false, and_true, and_false, true_and, false_and, reduceIte]; rfl) (Can.too (.cons rfl (by simp) .nil))
  · obtain ⟨i, hyp, rfl, hcan⟩ := hI
    refine TC.can hcan ?_
    clear hcan
    refine TC.seq ?_
    refine TC.region ?_
    refine TL.vE (Val.lss rfl rfl rfl) ?_
    refine TL.nil ?_
    show TC _ _ _ _ _ _
    refine TC.seq ?_
    refine TC.cond rfl (fun hb => ?_) (fun hb => ?_)
    · have hk10 := hb
      refine TC.skip ?_
      show TC _ _ _ _ _ _
      refine TC.seq ?_
      refine TC.block ?_
      refine TC.seq ?_
      have hi : i < xs.length := by simpa using hb
      obtain ⟨y, hy⟩ := at_of (xs := xs) (k := i) hi
      have hy9 : SmIntS y := hx.2 y (List.mem_of_getElem? hy)
      refine TC.region ?_
      refine TL.vE (by exact Val.indexC (d := dIntS y) rfl rfl rfl rfl rfl (by omega) (by simp [hy])) ?_
      refine TL.ld ?_
      refine TL.vE (Val.assign 1 rfl rfl) ?_
      refine TL.nil ?_
      show TC _ _ _ _ _ _
      refine TC.region ?_
      refine TL.vE (Val.move 1 rfl rfl) ?_
      refine TL.vE (Val.move 1 rfl rfl) ?_
      refine TL.opK rfl fun K hK => ?_
      refine OpT.callL rfl rfl rfl rfl rfl rfl ((impl_copyInts_f y hy9).k) (by repeat first | exact .nil | refine Snaps.cons (.ro _) ?_ | refine Snaps.cons (.aggRo rfl) ?_ | refine Snaps.cons (.cptr _) ?_ | refine Snaps.cons (.fn _) ?_ | refine Snaps.cons (.ownRef rfl (by first | assumption | exact w_IntS _ | exact w_IntSS _ | exact w_SlotS _ | exact w_BoolS _ | exact w_InsS _ | exact w_GuestS _ | exact w_KeptS _ | exact w_MonS _ | exact w_EntryS _ | exact w_BareS _)) ?_ | refine Snaps.cons (.aggR (by repeat first | exact .nil | refine SnapCs.cons (.ro _) ?_ | refine SnapCs.cons (.ref rfl (by first | assumption | exact w_IntS _ | exact w_IntSS _ | exact w_SlotS _ | exact w_BoolS _ | exact w_InsS _ | exact w_GuestS _ | exact w_KeptS _ | exact w_MonS _ | exact w_EntryS _ | exact w_BareS _)) ?_)) ?_) ?_
      simp only [nrm, Nat.reduceBEq, Nat.reduceBNe, reduceIte]
      refine hK _ ?_
      clear hK K
      refine TL.opK rfl fun K hK => ?_
      refine OpT.build1 rfl rfl (z := 0) rfl rfl rfl rfl rfl (by decide) (by decide) (by simp [St.adopt, cellsV, elD, cellD, St.renew, St.store1, St.storeAll, St.cellAt, St.isMem, St.root, St.wrote, St.kill, St.setRoot, TS.kill, TV.kill, C.kill, Rt.kill, hitR, hitP, shapeOf, setRow, setAt, rowAt, D.row, D.reRow, List.isPrefixOf]; rfl) ?_
      simp only [nrm, Nat.reduceBEq, Nat.reduceBNe, reduceIte]
      refine hK _ ?_
      clear hK K
      refine TL.opK rfl fun K hK => ?_
      refine OpT.appendOE rfl rfl rfl rfl rfl rfl (by decide) (by simp [D.row]) rfl rfl rfl rfl rfl rfl rfl (by simp; omega) ?_
      simp only [nrm, Nat.reduceBEq, Nat.reduceBNe, reduceIte]
      refine hK _ ?_
      clear hK K
      refine TL.vE (Val.assign 1 rfl rfl) ?_
      refine TL.nil ?_
      show TC _ _ _ _ _ _
      refine TC.region ?_
      refine TL.vE (Val.addO rfl rfl rfl) ?_
      refine TL.vE (Val.move 1 rfl rfl) ?_
      refine TL.nil ?_
      first | refine Seq.normal ⟨_, ?_, i + 1, ?_, rfl, ?_⟩ | refine Seq.normal (Q := fun _ _ => True) ⟨_, ?_, i + 1, ?_, rfl, ?_⟩
      · omega
      · omega
      · exact Can.name 17 3 (by simp only [St.name, nameS, nameV, nameC, nameR, List.map_cons, List.map_nil, Nat.reduceEqDiff, if_true, if_false, ne_eq, not_true, not_false, and_true, and_false, true_and, false_and, reduceIte]; rfl) (Can.too (.cons rfl (by simp [elD, cellD, List.take_add_one, hy]) .nil))
    have hk10 := hb
    refine TC.exit ?_
    show TC _ _ _ _ _ _
    refine TC.seq ?_
    have hie : xs.length ≤ i := by simp at hb; omega
    rw [List.take_of_length_le hie]
    refine TC.region ?_
    refine TL.vE (Val.move 1 rfl rfl) ?_
    refine TL.vE (Val.assign 1 rfl rfl) ?_
    refine TL.nil ?_
    show TC _ _ _ _ _ _
    refine TC.ret ?_
    exact ⟨.inr rfl, [_], [_], _, rfl, by decide, rfl, by simp [refV, refC, valC, C.kill, hitR], rfl, rfl⟩

theorem impl_copyMon_f (x : VMon) (hx : SmMon x) : Fun Tryz.prog 90 [A (rMon x)] (RG [.a (rMon x)]) := by
  refine Fun.of Tryz.func90 rfl (by simp [Tryz.ntmps90]) fun w g0 => ?_
  simp only [Tryz.ntmps90, List.length_cons, List.length_nil, Nat.reduceAdd, Nat.reduceSub, List.replicate, List.cons_append, List.nil_append]
  have hlen : x.Tables.length ≤ 1048576 := hx.2.2.2.2.2.1
  refine TC.seq ?_
  refine TC.region ?_
  refine TL.opK rfl fun K hK => ?_
  first | refine OpT.box rfl rfl (z := 1) rfl (by simp) ?_ | refine OpT.boxAgg rfl rfl rfl ?_
  simp only [nrm, Nat.reduceBEq, Nat.reduceBNe, reduceIte]
  refine hK _ ?_
  clear hK K
  refine TL.opK rfl fun K hK => ?_
  refine OpT.alloc rfl rfl rfl rfl rfl rfl ?_
  simp only [nrm, Nat.reduceBEq, Nat.reduceBNe, reduceIte]
  refine hK _ ?_
  clear hK K
  refine TL.nil ?_
  show TC _ _ _ _ _ _
  refine TC.seq ?_
  refine TC.region ?_
  refine TL.fld ?_
  refine TL.ld ?_
  refine TL.opK rfl fun K hK => ?_
  refine OpT.callL rfl rfl rfl rfl rfl rfl ((impl_copyTable_f x.Outer hx.1).k) (by repeat first | exact .nil | refine Snaps.cons (.ro _) ?_ | refine Snaps.cons (.aggRo rfl) ?_ | refine Snaps.cons (.cptr _) ?_ | refine Snaps.cons (.fn _) ?_ | refine Snaps.cons (.ownRef rfl (by first | assumption | exact w_IntS _ | exact w_IntSS _ | exact w_SlotS _ | exact w_BoolS _ | exact w_InsS _ | exact w_GuestS _ | exact w_KeptS _ | exact w_MonS _ | exact w_EntryS _ | exact w_BareS _)) ?_ | refine Snaps.cons (.aggR (by repeat first | exact .nil | refine SnapCs.cons (.ro _) ?_ | refine SnapCs.cons (.ref rfl (by first | assumption | exact w_IntS _ | exact w_IntSS _ | exact w_SlotS _ | exact w_BoolS _ | exact w_InsS _ | exact w_GuestS _ | exact w_KeptS _ | exact w_MonS _ | exact w_EntryS _ | exact w_BareS _)) ?_)) ?_) ?_
  simp only [nrm, Nat.reduceBEq, Nat.reduceBNe, reduceIte]
  refine hK _ ?_
  clear hK K
  refine TL.fld ?_
  refine TL.opK rfl fun K hK => ?_
  refine OpT.store (z := 1) rfl rfl rfl rfl rfl rfl (by simp [St.store1, St.storeAll, St.cellAt, St.isMem, St.root, St.wrote, St.kill, St.setRoot, TS.kill, TV.kill, C.kill, Rt.kill, hitR, hitP, shapeOf, setRow, setAt, rowAt, D.row, D.reRow, List.isPrefixOf]; rfl) ?_ -- None
  simp only [nrm, Nat.reduceBEq, Nat.reduceBNe, reduceIte]
  refine hK _ ?_
  clear hK K
  refine TL.nil ?_
  show TC _ _ _ _ _ _
  refine TC.seq ?_
  refine TC.region ?_
  refine TL.fld ?_
  refine TL.ld ?_
  refine TL.opK rfl fun K hK => ?_
  refine OpT.callL rfl rfl rfl rfl rfl rfl ((impl_copyMem_f x.Out hx.2.1).k) (by repeat first | exact .nil | refine Snaps.cons (.ro _) ?_ | refine Snaps.cons (.aggRo rfl) ?_ | refine Snaps.cons (.cptr _) ?_ | refine Snaps.cons (.fn _) ?_ | refine Snaps.cons (.ownRef rfl (by first | assumption | exact w_IntS _ | exact w_IntSS _ | exact w_SlotS _ | exact w_BoolS _ | exact w_InsS _ | exact w_GuestS _ | exact w_KeptS _ | exact w_MonS _ | exact w_EntryS _ | exact w_BareS _)) ?_ | refine Snaps.cons (.aggR (by repeat first | exact .nil | refine SnapCs.cons (.ro _) ?_ | refine SnapCs.cons (.ref rfl (by first | assumption | exact w_IntS _ | exact w_IntSS _ | exact w_SlotS _ | exact w_BoolS _ | exact w_InsS _ | exact w_GuestS _ | exact w_KeptS _ | exact w_MonS _ | exact w_EntryS _ | exact w_BareS _)) ?_)) ?_) ?_
  simp only [nrm, Nat.reduceBEq, Nat.reduceBNe, reduceIte]
  refine hK _ ?_
  clear hK K
  refine TL.fld ?_
  refine TL.opK rfl fun K hK => ?_
  refine OpT.store (z := 1) rfl rfl rfl rfl rfl rfl (by simp [St.store1, St.storeAll, St.cellAt, St.isMem, St.root, St.wrote, St.kill, St.setRoot, TS.kill, TV.kill, C.kill, Rt.kill, hitR, hitP, shapeOf, setRow, setAt, rowAt, D.row, D.reRow, List.isPrefixOf]; rfl) ?_ -- None
  simp only [nrm, Nat.reduceBEq, Nat.reduceBNe, reduceIte]
  refine hK _ ?_
  clear hK K
  refine TL.nil ?_
  show TC _ _ _ _ _ _
  refine TC.seq ?_
  refine TC.region ?_
  refine TL.opK rfl fun K hK => ?_
  refine OpT.build0 (sz := 1) rfl rfl rfl rfl ?_
  simp only [nrm, Nat.reduceBEq, Nat.reduceBNe, reduceIte]
  refine hK _ ?_
  clear hK K
  refine TL.fld ?_
  refine TL.ld ?_
  refine TL.opK rfl fun K hK => ?_
  refine OpT.appendE rfl rfl rfl (sz := 1) rfl rfl rfl (by intro d hd; obtain ⟨z, _, rfl⟩ := List.mem_map.1 hd; intro c hc; simp only [D.row, rSlot, rIns, List.mem_cons, List.not_mem_nil, or_false] at hc; first | exact ⟨_, hc⟩ | (rcases hc with hc | hc <;> exact ⟨_, hc⟩)) rfl rfl rfl rfl rfl rfl rfl (by have h9 : x.Dirty.length ≤ 1048576 := hx.2.2.1; simp; omega) ?_
  simp only [nrm, Nat.reduceBEq, Nat.reduceBNe, reduceIte]
  refine hK _ ?_
  clear hK K
  refine TL.fld ?_
  refine TL.opK rfl fun K hK => ?_
  refine OpT.store (z := 1) rfl rfl rfl rfl rfl rfl (by simp [St.store1, St.storeAll, St.cellAt, St.isMem, St.root, St.wrote, St.kill, St.setRoot, TS.kill, TV.kill, C.kill, Rt.kill, hitR, hitP, shapeOf, setRow, setAt, rowAt, D.row, D.reRow, List.isPrefixOf]; rfl) ?_ -- None
  simp only [nrm, Nat.reduceBEq, Nat.reduceBNe, reduceIte]
  refine hK _ ?_
  clear hK K
  refine TL.nil ?_
  show TC _ _ _ _ _ _
  refine TC.seq ?_
  refine TC.region ?_
  refine TL.fld ?_
  refine TL.ld ?_
  refine TL.opK rfl fun K hK => ?_
  refine OpT.callL rfl rfl rfl rfl rfl rfl ((impl_copyGuests_f x.Guests hx.2.2.2.1).k) (by repeat first | exact .nil | refine Snaps.cons (.ro _) ?_ | refine Snaps.cons (.aggRo rfl) ?_ | refine Snaps.cons (.cptr _) ?_ | refine Snaps.cons (.fn _) ?_ | refine Snaps.cons (.ownRef rfl (by first | assumption | exact w_IntS _ | exact w_IntSS _ | exact w_SlotS _ | exact w_BoolS _ | exact w_InsS _ | exact w_GuestS _ | exact w_KeptS _ | exact w_MonS _ | exact w_EntryS _ | exact w_BareS _)) ?_ | refine Snaps.cons (.aggR (by repeat first | exact .nil | refine SnapCs.cons (.ro _) ?_ | refine SnapCs.cons (.ref rfl (by first | assumption | exact w_IntS _ | exact w_IntSS _ | exact w_SlotS _ | exact w_BoolS _ | exact w_InsS _ | exact w_GuestS _ | exact w_KeptS _ | exact w_MonS _ | exact w_EntryS _ | exact w_BareS _)) ?_)) ?_) ?_
  simp only [nrm, Nat.reduceBEq, Nat.reduceBNe, reduceIte]
  refine hK _ ?_
  clear hK K
  refine TL.fld ?_
  refine TL.opK rfl fun K hK => ?_
  refine OpT.store (z := 1) rfl rfl rfl rfl rfl rfl (by simp [St.store1, St.storeAll, St.cellAt, St.isMem, St.root, St.wrote, St.kill, St.setRoot, TS.kill, TV.kill, C.kill, Rt.kill, hitR, hitP, shapeOf, setRow, setAt, rowAt, D.row, D.reRow, List.isPrefixOf]; rfl) ?_ -- None
  simp only [nrm, Nat.reduceBEq, Nat.reduceBNe, reduceIte]
  refine hK _ ?_
  clear hK K
  refine TL.nil ?_
  show TC _ _ _ _ _ _
  refine TC.seq ?_
  refine TC.region ?_
  refine TL.fld ?_
  refine TL.ld ?_
  refine TL.opK rfl fun K hK => ?_
  refine OpT.callL rfl rfl rfl rfl rfl rfl ((impl_copyInts_f x.Outs hx.2.2.2.2.1).k) (by repeat first | exact .nil | refine Snaps.cons (.ro _) ?_ | refine Snaps.cons (.aggRo rfl) ?_ | refine Snaps.cons (.cptr _) ?_ | refine Snaps.cons (.fn _) ?_ | refine Snaps.cons (.ownRef rfl (by first | assumption | exact w_IntS _ | exact w_IntSS _ | exact w_SlotS _ | exact w_BoolS _ | exact w_InsS _ | exact w_GuestS _ | exact w_KeptS _ | exact w_MonS _ | exact w_EntryS _ | exact w_BareS _)) ?_ | refine Snaps.cons (.aggR (by repeat first | exact .nil | refine SnapCs.cons (.ro _) ?_ | refine SnapCs.cons (.ref rfl (by first | assumption | exact w_IntS _ | exact w_IntSS _ | exact w_SlotS _ | exact w_BoolS _ | exact w_InsS _ | exact w_GuestS _ | exact w_KeptS _ | exact w_MonS _ | exact w_EntryS _ | exact w_BareS _)) ?_)) ?_) ?_
  simp only [nrm, Nat.reduceBEq, Nat.reduceBNe, reduceIte]
  refine hK _ ?_
  clear hK K
  refine TL.fld ?_
  refine TL.opK rfl fun K hK => ?_
  refine OpT.store (z := 1) rfl rfl rfl rfl rfl rfl (by simp [St.store1, St.storeAll, St.cellAt, St.isMem, St.root, St.wrote, St.kill, St.setRoot, TS.kill, TV.kill, C.kill, Rt.kill, hitR, hitP, shapeOf, setRow, setAt, rowAt, D.row, D.reRow, List.isPrefixOf]; rfl) ?_ -- None
  simp only [nrm, Nat.reduceBEq, Nat.reduceBNe, reduceIte]
  refine hK _ ?_
  clear hK K
  refine TL.nil ?_
  show TC _ _ _ _ _ _
  refine TC.seq ?_
  refine TC.region ?_
  refine TL.opK rfl fun K hK => ?_
  refine OpT.build0 (sz := 2) rfl rfl rfl rfl ?_
  simp only [nrm, Nat.reduceBEq, Nat.reduceBNe, reduceIte]
  refine hK _ ?_
  clear hK K
  refine TL.vE (Val.assign 1 rfl rfl) ?_
  refine TL.nil ?_
  show TC _ _ _ _ _ _
  refine TC.seq ?_
  refine TC.seq ?_
  refine TC.region ?_
  refine TL.fld ?_
  refine TL.ld ?_
  refine TL.vE (by first | exact Val.len rfl rfl rfl rfl | exact Val.lenS rfl rfl rfl) ?_
  refine TL.vE (Val.move 1 rfl rfl) ?_
  refine TL.nil ?_
  show TC _ _ _ _ _ _
  refine TC.block ?_
  refine TC.loop (fun μ st => ∃ i : Nat, (i ≤ x.Tables.length) ∧ μ = x.Tables.length - i ∧ Can st ⟨[.one .dead, .one (.ptr ⟨1, [], 0⟩), .one (.ptr ⟨2, [], 0⟩), .one (.c (.ref ⟨3, [], 0⟩)), .one .dead, .one .dead, .one .dead, .one .dead, .one .dead, .one .dead, .one .dead, .one .dead, .one .dead, .one .dead, .one .dead, .one .dead, .one .dead, .one .dead, .one .dead, .one .dead, .one .dead, .one .dead, .one .dead, .one .dead, .one .dead, .one .dead, .one .dead, .one .dead, .one .dead, L 2 (x.Tables.map dKept), I (x.Tables.map dKept).length, I i, .one .dead, .one .dead, .one .dead, .one .dead, .one .dead, .one .dead, .one .dead, .one .dead, .one .dead, .one .dead, .one .dead, .one .dead], [(3, ⟨false, [.own (.sl 2 ((x.Tables.take i).map dKept))]⟩), (1, ⟨true, [.own (.sl 2 (x.Outer.map dSlot)), .own (.sl 1 (x.Out.map dIntS)), .own (.sl 1 (x.Dirty.map dBool)), .own (.sl 15 (x.Guests.map dGuest)), .own (.sl 1 (x.Outs.map dInt)), .own (.v (.int .i64 x.Pending)), .own (.v (.int .i64 x.Traps)), .ro (.sl 2 (x.Tables.map dKept)), .own (.v (.int .i64 x.Own))]⟩), (2, ⟨true, [.own (.sl 2 []), .own (.sl 1 []), .own (.sl 1 []), .own (.sl 15 []), .own (.sl 1 []), .own (.v (.int .i64 0)), .own (.v (.int .i64 0)), .own (.sl 2 []), .own (.v (.int .i64 0))]⟩)]⟩) (x.Tables.length) ?_ fun μ st hI => ?_
  · refine ⟨0, by simp, by simp, ?_⟩
    exact Can.name 27 3 (by simp only [St.name, nameS, nameV, nameC, nameR, List.map_cons, List.map_nil, Nat.reduceEqDiff, if_true, if_false, ne_eq, not_true, not_false, and_true, and_false, true_and, false_and, reduceIte]; rfl) (Can.too (.cons rfl (by simp) (.cons rfl rfl (.cons rfl rfl .nil))))
  · obtain ⟨i, hyp, rfl, hcan⟩ := hI
    refine TC.can hcan ?_
    clear hcan
    refine TC.seq ?_
    refine TC.region ?_
    refine TL.vE (Val.lss rfl rfl rfl) ?_
    refine TL.nil ?_
    show TC _ _ _ _ _ _
    refine TC.seq ?_
    refine TC.cond rfl (fun hb => ?_) (fun hb => ?_)
    · have hk32 := hb
      refine TC.skip ?_
      show TC _ _ _ _ _ _
      refine TC.seq ?_
      refine TC.block ?_
      refine TC.seq ?_
      have hi : i < x.Tables.length := by simpa using hb
      obtain ⟨y, hy⟩ := at_of (xs := x.Tables) (k := i) hi
      have hy9 : SmKept y := hx.2.2.2.2.2.2 y (List.mem_of_getElem? hy)
      refine TC.region ?_
      refine TL.vE (by exact Val.indexC (d := dKept y) rfl rfl rfl rfl rfl (by omega) (by simp [hy])) ?_
      refine TL.valE rfl (by first | exact Val.loadCAgg (n := 2) rfl rfl rfl rfl (Nat.le_of_ble_eq_true rfl) | exact Val.loadAgg (n := 2) rfl rfl rfl rfl (by simp [St.cellsAt, St.cellAt, St.root, valC]; rfl) rfl | exact Val.loadAgg (n := 2) rfl rfl rfl rfl rfl rfl) (by simp only [St.put, List.set_cons_succ, List.set_cons_zero, valC, dKept, rKept, D.row, List.take_succ_cons, List.take_zero, List.map_cons, List.map_nil]; rfl) ?_
      refine TL.opK rfl fun K hK => ?_
      refine OpT.alloc rfl rfl rfl rfl rfl rfl ?_
      simp only [nrm, Nat.reduceBEq, Nat.reduceBNe, reduceIte]
      refine hK _ ?_
      clear hK K
      refine TL.opK rfl fun K hK => ?_
      refine OpT.storeAgg rfl rfl rfl rfl rfl rfl (by simp [St.store1, St.storeAll, St.cellAt, St.isMem, St.root, St.wrote, St.kill, St.setRoot, TS.kill, TV.kill, C.kill, Rt.kill, hitR, hitP, shapeOf, setRow, setAt, rowAt, D.row, D.reRow, List.isPrefixOf]; rfl) ?_ -- None
      simp only [nrm, Nat.reduceBEq, Nat.reduceBNe, reduceIte]
      refine hK _ ?_
      clear hK K
      refine TL.nil ?_
      show TC _ _ _ _ _ _
      refine TC.region ?_
      refine TL.vE (Val.move 1 rfl rfl) ?_
      refine TL.valE rfl (by first | exact Val.loadCAgg (n := 2) rfl rfl rfl rfl (Nat.le_of_ble_eq_true rfl) | exact Val.loadAgg (n := 2) rfl rfl rfl rfl (by simp [St.cellsAt, St.cellAt, St.root, valC]; rfl) rfl | exact Val.loadAgg (n := 2) rfl rfl rfl rfl rfl rfl) (by simp only [St.put, List.set_cons_succ, List.set_cons_zero, valC, dKept, rKept, D.row, List.take_succ_cons, List.take_zero, List.map_cons, List.map_nil]; rfl) ?_
      refine TL.opK rfl fun K hK => ?_
      refine OpT.callG rfl rfl rfl rfl rfl rfl ((impl_copyKept_f y hy9).k) (by repeat first | exact .nil | refine Snaps.cons (.ro _) ?_ | refine Snaps.cons (.aggRo rfl) ?_ | refine Snaps.cons (.cptr _) ?_ | refine Snaps.cons (.fn _) ?_ | refine Snaps.cons (.ownRef rfl (by first | assumption | exact w_IntS _ | exact w_IntSS _ | exact w_SlotS _ | exact w_BoolS _ | exact w_InsS _ | exact w_GuestS _ | exact w_KeptS _ | exact w_MonS _ | exact w_EntryS _ | exact w_BareS _)) ?_ | refine Snaps.cons (.aggR (by repeat first | exact .nil | refine SnapCs.cons (.ro _) ?_ | refine SnapCs.cons (.ref rfl (by first | assumption | exact w_IntS _ | exact w_IntSS _ | exact w_SlotS _ | exact w_BoolS _ | exact w_InsS _ | exact w_GuestS _ | exact w_KeptS _ | exact w_MonS _ | exact w_EntryS _ | exact w_BareS _)) ?_)) ?_) rfl ?_
      simp only [nrm, Nat.reduceBEq, Nat.reduceBNe, reduceIte]
      refine hK _ ?_
      clear hK K
      refine TL.opK rfl fun K hK => ?_
      refine OpT.build1 rfl rfl (z := 0) rfl rfl rfl rfl rfl (by decide) (by decide) (by simp [St.adopt, cellsV, elD, cellD, St.renew, St.store1, St.storeAll, St.cellAt, St.isMem, St.root, St.wrote, St.kill, St.setRoot, TS.kill, TV.kill, C.kill, Rt.kill, hitR, hitP, shapeOf, setRow, setAt, rowAt, D.row, D.reRow, List.isPrefixOf]; rfl) ?_
      simp only [nrm, Nat.reduceBEq, Nat.reduceBNe, reduceIte]
      refine hK _ ?_
      clear hK K
      refine TL.opK rfl fun K hK => ?_
      refine OpT.appendOE rfl rfl rfl rfl rfl rfl (by decide) (by simp [D.row]) rfl rfl rfl rfl rfl rfl rfl (by simp; omega) ?_
      simp only [nrm, Nat.reduceBEq, Nat.reduceBNe, reduceIte]
      refine hK _ ?_
      clear hK K
      refine TL.vE (Val.assign 1 rfl rfl) ?_
      refine TL.nil ?_
      show TC _ _ _ _ _ _
      refine TC.region ?_
      refine TL.vE (Val.addO rfl rfl rfl) ?_
      refine TL.vE (Val.move 1 rfl rfl) ?_
      refine TL.nil ?_
      first | refine Seq.normal ⟨_, ?_, i + 1, ?_, rfl, ?_⟩ | refine Seq.normal (Q := fun _ _ => True) ⟨_, ?_, i + 1, ?_, rfl, ?_⟩
      · omega
      · omega
      · exact Can.name 39 3 (by simp only [St.name, nameS, nameV, nameC, nameR, List.map_cons, List.map_nil, Nat.reduceEqDiff, if_true, if_false, ne_eq, not_true, not_false, and_true, and_false, true_and, false_and, reduceIte]; rfl) (Can.too (.cons rfl (by simp [elD, cellD, List.take_add_one, hy]) (.cons rfl rfl (.cons rfl rfl .nil))))
    have hk32 := hb
    refine TC.exit ?_
    show TC _ _ _ _ _ _
    refine TC.seq ?_
    have hie : x.Tables.length ≤ i := by simp at hb; omega
    rw [List.take_of_length_le hie]
    refine TC.region ?_
    refine TL.vE (Val.move 1 rfl rfl) ?_
    refine TL.fld ?_
    refine TL.opK rfl fun K hK => ?_
    refine OpT.store (z := 1) rfl rfl rfl rfl rfl rfl (by simp [St.store1, St.storeAll, St.cellAt, St.isMem, St.root, St.wrote, St.kill, St.setRoot, TS.kill, TV.kill, C.kill, Rt.kill, hitR, hitP, shapeOf, setRow, setAt, rowAt, D.row, D.reRow, List.isPrefixOf]; rfl) ?_ -- None
    simp only [nrm, Nat.reduceBEq, Nat.reduceBNe, reduceIte]
    refine hK _ ?_
    clear hK K
    refine TL.nil ?_
    show TC _ _ _ _ _ _
    refine TC.seq ?_
    refine TC.region ?_
    refine TL.valE rfl (by first | exact Val.loadCAgg (n := 9) rfl rfl rfl rfl (Nat.le_of_ble_eq_true rfl) | exact Val.loadAgg (n := 9) rfl rfl rfl rfl (by simp [St.cellsAt, St.cellAt, St.root, valC]; rfl) rfl | exact Val.loadAgg (n := 9) rfl rfl rfl rfl rfl rfl) (by simp only [St.put, List.set_cons_succ, List.set_cons_zero, valC, dMon, rMon, D.row, List.take_succ_cons, List.take_zero, List.map_cons, List.map_nil]; rfl) ?_
    refine TL.opK rfl fun K hK => ?_
    refine OpT.storeAgg rfl rfl rfl rfl rfl rfl (by simp [St.store1, St.storeAll, St.cellAt, St.isMem, St.root, St.wrote, St.kill, St.setRoot, TS.kill, TV.kill, C.kill, Rt.kill, hitR, hitP, shapeOf, setRow, setAt, rowAt, D.row, D.reRow, List.isPrefixOf]; rfl) ?_ -- None
    simp only [nrm, Nat.reduceBEq, Nat.reduceBNe, reduceIte]
    refine hK _ ?_
    clear hK K
    refine TL.nil ?_
    show TC _ _ _ _ _ _
    refine TC.ret ?_
    exact ⟨.inr rfl, [_], [_], _, rfl, by decide, rfl, by simp [refV, refC, valC, C.kill, hitR], rfl, rfl⟩

theorem impl_has_f (k n : Int) : Fun Tryz.prog 158 [I k, I n] (RV (.bool (decide (0 ≤ k ∧ k < n)))) := by
  refine Fun.of Tryz.func158 rfl (by simp [Tryz.ntmps158]) fun w g0 => ?_
  simp only [Tryz.ntmps158, List.length_cons, List.length_nil, Nat.reduceAdd, Nat.reduceSub, List.replicate, List.cons_append, List.nil_append]
  refine TC.seq ?_
  refine TC.region ?_
  refine TL.vE (Val.assign 1 rfl rfl) ?_
  refine TL.nil ?_
  show TC _ _ _ _ _ _
  refine TC.seq ?_
  refine TC.region ?_
  refine TL.vE (Val.move 1 rfl rfl) ?_
  refine TL.vE (Val.geq rfl rfl rfl) ?_
  refine TL.vE (Val.move 1 rfl rfl) ?_
  refine TL.splitG 2 rfl (fun hg2 => ?_) (fun hg2 => ?_)
  · refine TL.gE rfl hg2 (Val.move 1 rfl rfl) ?_
    refine TL.gE rfl hg2 (Val.move 1 rfl rfl) ?_
    refine TL.gE rfl hg2 (Val.lss rfl rfl rfl) ?_
    refine TL.vE (Val.pickT rfl rfl hg2 rfl) ?_
    refine TL.vE (Val.assign 1 rfl rfl) ?_
    refine TL.nil ?_
    show TC _ _ _ _ _ _
    refine TC.ret ?_
    exact ⟨.inr rfl, [_], [_], _, rfl, by decide, rfl, by simp [refV, refC, valC, C.kill, hitR], rfl, resV (by simp_all <;> (try intros) <;> omega)⟩
  · iterate 3 (refine TL.skip (nope_b rfl rfl hg2) (by simp only [nput]; rfl) ?_)
    refine TL.vE (Val.pickF rfl rfl hg2 rfl) ?_
    refine TL.vE (Val.assign 1 rfl rfl) ?_
    refine TL.nil ?_
    show TC _ _ _ _ _ _
    refine TC.ret ?_
    exact ⟨.inr rfl, [_], [_], _, rfl, by decide, rfl, by simp [refV, refC, valC, C.kill, hitR], rfl, resV (by simp_all <;> (try intros) <;> omega)⟩

theorem impl_MonAt_f (x : VHost) (m : Int) (hx : SmHost x) : Fun Tryz.prog 104 [A (rHost x), I m] (RMon (monAt x m)) := by
  refine Fun.of Tryz.func104 rfl (by simp [Tryz.ntmps104]) fun w g0 => ?_
  simp only [Tryz.ntmps104, List.length_cons, List.length_nil, Nat.reduceAdd, Nat.reduceSub, List.replicate, List.cons_append, List.nil_append]
  refine TC.seq ?_
  refine TC.region ?_
  refine TL.opK rfl fun K hK => ?_
  first | refine OpT.box rfl rfl (z := 1) rfl (by simp) ?_ | refine OpT.boxAgg rfl rfl rfl ?_
  simp only [nrm, Nat.reduceBEq, Nat.reduceBNe, reduceIte]
  refine hK _ ?_
  clear hK K
  refine TL.opK rfl fun K hK => ?_
  refine OpT.alloc rfl rfl rfl rfl rfl rfl ?_
  simp only [nrm, Nat.reduceBEq, Nat.reduceBNe, reduceIte]
  refine hK _ ?_
  clear hK K
  refine TL.vE (Val.assign 1 rfl rfl) ?_
  refine TL.nil ?_
  show TC _ _ _ _ _ _
  refine TC.seq ?_
  refine TC.seq ?_
  refine TC.region ?_
  refine TL.vE (Val.move 1 rfl rfl) ?_
  refine TL.fld ?_
  refine TL.ld ?_
  refine TL.vE (by first | exact Val.len rfl rfl rfl rfl | exact Val.lenS rfl rfl rfl) ?_
  refine TL.callF (yes_none rfl) rfl rfl rfl rfl rfl rfl ((impl_has_f m ((x.Mons.map dMon).length : Nat)).k) (by repeat first | exact .nil | refine Snaps.cons (.ro _) ?_ | refine Snaps.cons (.aggRo rfl) ?_ | refine Snaps.cons (.cptr _) ?_ | refine Snaps.cons (.fn _) ?_ | refine Snaps.cons (.ownRef rfl (by first | assumption | exact w_IntS _ | exact w_IntSS _ | exact w_SlotS _ | exact w_BoolS _ | exact w_InsS _ | exact w_GuestS _ | exact w_KeptS _ | exact w_MonS _ | exact w_EntryS _ | exact w_BareS _)) ?_ | refine Snaps.cons (.aggR (by repeat first | exact .nil | refine SnapCs.cons (.ro _) ?_ | refine SnapCs.cons (.ref rfl (by first | assumption | exact w_IntS _ | exact w_IntSS _ | exact w_SlotS _ | exact w_BoolS _ | exact w_InsS _ | exact w_GuestS _ | exact w_KeptS _ | exact w_MonS _ | exact w_EntryS _ | exact w_BareS _)) ?_)) ?_) rfl (by simp only [nput]; rfl) ?_
  refine TL.vE (Val.not rfl rfl) ?_
  refine TL.nil ?_
  show TC _ _ _ _ _ _
  refine TC.cond rfl (fun hb => ?_) (fun hb => ?_)
  · have hk11 := hb
    refine TC.seq ?_
    have h0 : monAt x m = none := monAt_none (by simp at hb; omega)
    refine TC.region ?_
    refine TL.opK rfl fun K hK => ?_
    refine OpT.buildN (parts := []) (place := [(0, 1), (1, 1), (2, 1), (3, 1), (4, 1), (5, 1), (6, 1), (7, 1), (8, 1)]) (row' := [.sl 2 [], .sl 1 [], .sl 1 [], .sl 15 [], .sl 1 [], .v (.int .i64 0), .v (.int .i64 0), .sl 2 [], .v (.int .i64 0)]) rfl rfl rfl rfl rfl rfl rfl rfl rfl rfl rfl (by simp [fillC, refsD, refD, nextD]; rfl) ?_
    simp only [nrm, Nat.reduceBEq, Nat.reduceBNe, reduceIte]
    refine hK _ ?_
    clear hK K
    refine TL.opK rfl fun K hK => ?_
    refine OpT.storeAgg rfl rfl rfl rfl rfl rfl (by simp [St.store1, St.storeAll, St.cellAt, St.isMem, St.root, St.wrote, St.kill, St.setRoot, TS.kill, TV.kill, C.kill, Rt.kill, hitR, hitP, shapeOf, setRow, setAt, rowAt, D.row, D.reRow, List.isPrefixOf]; rfl) ?_ -- None
    simp only [nrm, Nat.reduceBEq, Nat.reduceBNe, reduceIte]
    refine hK _ ?_
    clear hK K
    refine TL.vE (Val.assign 1 rfl rfl) ?_
    refine TL.nil ?_
    show TC _ _ _ _ _ _
    refine TC.ret ?_
    exact ⟨.inr rfl, [_, _], [_, _], _, rfl, by decide, rfl, by simp [refV, refC, valC, C.kill, hitR], rfl, (by simp only [RMon, h0]; rfl)⟩
  have hk11 := hb
  refine TC.skip ?_
  show TC _ _ _ _ _ _
  refine TC.seq ?_
  have hin : 0 ≤ m ∧ m < x.Mons.length := by simp at hb; omega
  obtain ⟨y, hy⟩ := at_of (xs := x.Mons) (k := m.toNat) (by omega)
  have h0 := monAt_some hin.1 hy
  have hy9 : SmMon y := hx.2.1.2 y (List.mem_of_getElem? hy)
  refine TC.region ?_
  refine TL.fld ?_
  refine TL.ld ?_
  refine TL.vE (Val.move 1 rfl rfl) ?_
  refine TL.vE (by exact Val.indexC (d := dMon y) rfl rfl rfl rfl rfl (by omega) (by simp [hy])) ?_
  refine TL.valE rfl (by first | exact Val.loadCAgg (n := 9) rfl rfl rfl rfl (Nat.le_of_ble_eq_true rfl) | exact Val.loadAgg (n := 9) rfl rfl rfl rfl (by simp [St.cellsAt, St.cellAt, St.root, valC]; rfl) rfl | exact Val.loadAgg (n := 9) rfl rfl rfl rfl rfl rfl) (by simp only [St.put, List.set_cons_succ, List.set_cons_zero, valC, dMon, rMon, D.row, List.take_succ_cons, List.take_zero, List.map_cons, List.map_nil]; rfl) ?_
  refine TL.opK rfl fun K hK => ?_
  refine OpT.callG rfl rfl rfl rfl rfl rfl ((impl_copyMon_f y hy9).k) (by repeat first | exact .nil | refine Snaps.cons (.ro _) ?_ | refine Snaps.cons (.aggRo rfl) ?_ | refine Snaps.cons (.cptr _) ?_ | refine Snaps.cons (.fn _) ?_ | refine Snaps.cons (.ownRef rfl (by first | assumption | exact w_IntS _ | exact w_IntSS _ | exact w_SlotS _ | exact w_BoolS _ | exact w_InsS _ | exact w_GuestS _ | exact w_KeptS _ | exact w_MonS _ | exact w_EntryS _ | exact w_BareS _)) ?_ | refine Snaps.cons (.aggR (by repeat first | exact .nil | refine SnapCs.cons (.ro _) ?_ | refine SnapCs.cons (.ref rfl (by first | assumption | exact w_IntS _ | exact w_IntSS _ | exact w_SlotS _ | exact w_BoolS _ | exact w_InsS _ | exact w_GuestS _ | exact w_KeptS _ | exact w_MonS _ | exact w_EntryS _ | exact w_BareS _)) ?_)) ?_) rfl ?_
  simp only [nrm, Nat.reduceBEq, Nat.reduceBNe, reduceIte]
  refine hK _ ?_
  clear hK K
  refine TL.opK rfl fun K hK => ?_
  refine OpT.storeAgg rfl rfl rfl rfl rfl rfl (by simp [St.store1, St.storeAll, St.cellAt, St.isMem, St.root, St.wrote, St.kill, St.setRoot, TS.kill, TV.kill, C.kill, Rt.kill, hitR, hitP, shapeOf, setRow, setAt, rowAt, D.row, D.reRow, List.isPrefixOf]; rfl) ?_ -- None
  simp only [nrm, Nat.reduceBEq, Nat.reduceBNe, reduceIte]
  refine hK _ ?_
  clear hK K
  refine TL.vE (Val.assign 1 rfl rfl) ?_
  refine TL.nil ?_
  show TC _ _ _ _ _ _
  refine TC.ret ?_
  exact ⟨.inr rfl, [_, _], [_, _], _, rfl, by decide, rfl, by simp [refV, refC, valC, C.kill, hitR], rfl, (by simp only [RMon, h0]; rfl)⟩
end Go.Proofs.YtldollgpolklpaaGreat.T

