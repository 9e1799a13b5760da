/- FnLinesBack's own walk. PRINTED by gen.py out of spec_draw.py. -/
import Derived.Test.YtdlpmcjpbcbbjaaDoorT3
import Derived.Test.YtdlpmcjpbcbbjaaDoorXm
import Derived.Test.YtdlpmcjpbcbbjaaDoorWu
import Derived.Test.YtdlpmcjpbcbbjaaDoorWs
import Derived.Test.YtdlpmcjpbcbbjaaDoorWq
import Derived.Test.YtdlpmcjpbcbbjaaDoorWt
namespace Go.Proofs.YtdlpmcjpbcbbjaaDoor.T
open Go Go.RowKit
set_option linter.unusedVariables false
set_option linter.unusedSimpArgs false
set_option maxRecDepth 100000
set_option maxHeartbeats 1000000

theorem Val.cast {P : Program} {w0 : World} {g0 : Gh} {st : St} {o : Oper} {t t' : TS} (h : Val P w0 g0 o st t) (e : t = t') : Val P w0 g0 o st t' := e ▸ h
-- loop.example/g00975/laws.FnLinesBack: params ['[]uint8'] results ['bool'] ('arr', [('app', 'Go.ResultVar.tmp', ['2'])])
theorem laws_FnLinesBack_f (ds : List D) (hby : isBytes ds) : FunW (TabE) Tryd.prog 6 [L 1 ds] (RV (.bool true)) := by
  refine FunW.of (TabE.keep) Tryd.func6 rfl (by simp [Tryd.ntmps6]) fun w g0 hW => ?_
  simp only [Tryd.ntmps6, List.length_cons, List.length_nil, Nat.reduceAdd, Nat.reduceSub, List.replicate, List.cons_append, List.nil_append]
  have hW1 : ∀ w', Kept w g0 w' → Tab w' := fun w' h => (hW w' h).tab
  refine TC.seq ?_
  -- region 0
  refine TC.region ?_
  refine TL.vE (Val.assign 1 rfl rfl) ?_
  refine TL.nil ?_
  show TC _ _ _ _ _ _
  refine TC.seq ?_
  refine TC.seq ?_
  -- region 1
  refine TC.region ?_
  refine TL.vE (Val.move 1 rfl rfl) ?_
  refine TL.cF ((laws_big_f ds).k) ?_
  refine TL.nil ?_
  show TC _ _ _ _ _ _
  refine TC.cond rfl (fun hb => ?_) (fun hb => ?_)
  · have hk23 := hb
    refine TC.seq ?_
    -- region 2
    refine TC.region ?_
    refine TL.vE (Val.assign 1 rfl rfl) ?_
    refine TL.nil ?_
    show TC _ _ _ _ _ _
    refine TC.ret ?_
    exact ⟨.inr rfl, [_], [_], _, rfl, by decide, rfl, by simp [refV, refC, valC], rfl, rfl⟩
  have hk23 := hb
  refine TC.skip ?_
  show TC _ _ _ _ _ _
  refine TC.seq ?_
  have hn : ds.length ≤ 1048576 := by simp at hb; omega
  -- region 3
  refine TC.region ?_
  refine TL.vE (Val.move 1 rfl rfl) ?_
  refine TL.opK rfl fun K hK => ?_
  refine OpT.callD rfl rfl rfl rfl rfl (by repeat first | exact .nil | refine Snaps.cons (.ro _) ?_ | refine Snaps.cons (.aggRo rfl) ?_ | refine Snaps.cons (.cptr _) ?_ | refine Snaps.cons (.fn _) ?_ | refine Snaps.cons (.ownRef rfl (by first | assumption | exact whole_map _ _ (fun w c hc => by simp only [D.row, List.mem_cons, List.not_mem_nil, or_false] at hc; subst hc; exact .v _))) ?_ | refine Snaps.cons (.aggR (by repeat first | exact .nil | refine SnapCs.cons (.ro _) ?_ | refine SnapCs.cons (.ref rfl (by first | assumption | exact whole_map _ _ (fun w c hc => by simp only [D.row, List.mem_cons, List.not_mem_nil, or_false] at hc; subst hc; exact .v _))) ?_)) ?_) ((spec_DrawActLine_f ds hby hn).k) (fun x => ⟨_, rfl⟩) fun x25 hp25 => ?_
  simp only [nrm, Nat.reduceBEq, Nat.reduceBNe, reduceIte]
  refine hK _ ?_
  clear hK K
  refine TL.opK rfl fun K hK => ?_
  refine OpT.alloc rfl rfl rfl rfl rfl rfl ?_ -- 3
  simp only [nrm, Nat.reduceBEq, Nat.reduceBNe, reduceIte]
  refine hK _ ?_
  clear hK K
  refine TL.opK rfl fun K hK => ?_
  refine OpT.storeAgg rfl rfl rfl rfl rfl rfl (by simp [St.store1, St.storeAll, St.cellAt, St.isMem, St.root, St.wrote, St.kill, St.setRoot, TS.kill, TV.kill, C.kill, Rt.kill, hitR, hitP, shapeOf, setRow, setAt, rowAt, D.row, D.reRow, List.isPrefixOf]; rfl) ?_ -- None
  simp only [nrm, Nat.reduceBEq, Nat.reduceBNe, reduceIte]
  refine hK _ ?_
  clear hK K
  refine TL.nil ?_
  show TC _ _ _ _ _ _
  refine TC.seq ?_
  -- region 4
  refine TC.region ?_
  refine TL.valE rfl (by first | exact Val.loadCAgg (n := 6) rfl rfl rfl rfl (Nat.le_of_ble_eq_true rfl) | exact Val.loadAgg (n := 6) rfl rfl rfl rfl (by simp [St.cellsAt, St.cellAt, St.root, valC]; rfl) rfl | exact Val.loadAgg (n := 6) rfl rfl rfl rfl rfl rfl) (by simp only [St.put, List.set_cons_succ, List.set_cons_zero, valC, dAct, rAct, D.row, List.take_succ_cons, List.take_zero, List.map_cons, List.map_nil]; rfl) ?_
  refine TL.cF ((impl_ActLine_f x25).k) ?_
  refine TL.vE (Val.assign 1 rfl rfl) ?_
  refine TL.nil ?_
  show TC _ _ _ _ _ _
  refine TC.seq ?_
  have hz := actLine_small x25
  have hrd := impl_ReadAct_f (⟨#[32, 32]⟩ ++ actLine x25 ++ ⟨#[32]⟩)
  rw [readAct_pad] at hrd
  obtain ⟨oa, hoa⟩ : ∃ o, (if actLine x25 = ⟨#[]⟩ then none else some x25) = o := ⟨_, rfl⟩
  rw [hoa] at hrd
  -- region 5
  refine TC.region ?_
  refine TL.vE (Val.move 1 rfl rfl) ?_
  refine TL.vE (Val.addS rfl rfl rfl (by first | decide | omega | (simp [lit_size, ByteArray.size_append, strOfNums_size]; omega))) ?_
  refine TL.vE (Val.addS rfl rfl rfl (by first | decide | omega | (simp [lit_size, ByteArray.size_append, strOfNums_size]; omega))) ?_
  refine TL.opK rfl fun K hK => ?_
  refine OpT.callG rfl rfl rfl rfl rfl rfl ((hrd).k) (by repeat first | exact .nil | refine Snaps.cons (.ro _) ?_ | refine Snaps.cons (.aggRo rfl) ?_ | refine Snaps.cons (.cptr _) ?_ | refine Snaps.cons (.fn _) ?_ | refine Snaps.cons (.ownRef rfl (by first | assumption | exact whole_map _ _ (fun w c hc => by simp only [D.row, List.mem_cons, List.not_mem_nil, or_false] at hc; subst hc; exact .v _))) ?_ | refine Snaps.cons (.aggR (by repeat first | exact .nil | refine SnapCs.cons (.ro _) ?_ | refine SnapCs.cons (.ref rfl (by first | assumption | exact whole_map _ _ (fun w c hc => by simp only [D.row, List.mem_cons, List.not_mem_nil, or_false] at hc; subst hc; exact .v _))) ?_)) ?_) rfl ?_ -- 32
  simp only [nrm, Nat.reduceBEq, Nat.reduceBNe, reduceIte]
  refine hK _ ?_
  clear hK K
  refine TL.vE (Val.move 1 rfl rfl) ?_
  refine TL.vE (Val.extract rfl rfl rfl) ?_
  refine TL.vE (Val.extract rfl rfl rfl) ?_
  refine TL.opK rfl fun K hK => ?_
  refine OpT.alloc rfl rfl rfl rfl rfl rfl ?_ -- 5
  simp only [nrm, Nat.reduceBEq, Nat.reduceBNe, reduceIte]
  refine hK _ ?_
  clear hK K
  refine TL.opK rfl fun K hK => ?_
  refine OpT.storeAgg rfl rfl rfl rfl rfl rfl (by simp [St.store1, St.storeAll, St.cellAt, St.isMem, St.root, St.wrote, St.kill, St.setRoot, TS.kill, TV.kill, C.kill, Rt.kill, hitR, hitP, shapeOf, setRow, setAt, rowAt, D.row, D.reRow, List.isPrefixOf]; rfl) ?_ -- None
  simp only [nrm, Nat.reduceBEq, Nat.reduceBNe, reduceIte]
  refine hK _ ?_
  clear hK K
  refine TL.vE (Val.assign 1 rfl rfl) ?_
  refine TL.nil ?_
  show TC _ _ _ _ _ _
  refine TC.seq ?_
  -- region 6
  refine TC.region ?_
  refine TL.vE (Val.move 1 rfl rfl) ?_
  refine TL.opK rfl fun K hK => ?_
  refine OpT.callD rfl rfl rfl rfl rfl (by repeat first | exact .nil | refine Snaps.cons (.ro _) ?_ | refine Snaps.cons (.aggRo rfl) ?_ | refine Snaps.cons (.cptr _) ?_ | refine Snaps.cons (.fn _) ?_ | refine Snaps.cons (.ownRef rfl (by first | assumption | exact whole_map _ _ (fun w c hc => by simp only [D.row, List.mem_cons, List.not_mem_nil, or_false] at hc; subst hc; exact .v _))) ?_ | refine Snaps.cons (.aggR (by repeat first | exact .nil | refine SnapCs.cons (.ro _) ?_ | refine SnapCs.cons (.ref rfl (by first | assumption | exact whole_map _ _ (fun w c hc => by simp only [D.row, List.mem_cons, List.not_mem_nil, or_false] at hc; subst hc; exact .v _))) ?_)) ?_) ((spec_DrawInsLine_f ds hby hn).k) (fun x => ⟨_, rfl⟩) fun x36 hp36 => ?_
  simp only [nrm, Nat.reduceBEq, Nat.reduceBNe, reduceIte]
  refine hK _ ?_
  clear hK K
  refine TL.opK rfl fun K hK => ?_
  refine OpT.alloc rfl rfl rfl rfl rfl rfl ?_ -- 7
  simp only [nrm, Nat.reduceBEq, Nat.reduceBNe, reduceIte]
  refine hK _ ?_
  clear hK K
  refine TL.opK rfl fun K hK => ?_
  refine OpT.storeAgg rfl rfl rfl rfl rfl rfl (by simp [St.store1, St.storeAll, St.cellAt, St.isMem, St.root, St.wrote, St.kill, St.setRoot, TS.kill, TV.kill, C.kill, Rt.kill, hitR, hitP, shapeOf, setRow, setAt, rowAt, D.row, D.reRow, List.isPrefixOf]; rfl) ?_ -- None
  simp only [nrm, Nat.reduceBEq, Nat.reduceBNe, reduceIte]
  refine hK _ ?_
  clear hK K
  refine TL.nil ?_
  show TC _ _ _ _ _ _
  refine TC.seq ?_
  -- region 7
  refine TC.region ?_
  refine TL.valE rfl (by first | exact Val.loadCAgg (n := 2) rfl rfl rfl rfl (Nat.le_of_ble_eq_true rfl) | exact Val.loadAgg (n := 2) rfl rfl rfl rfl (by simp [St.cellsAt, St.cellAt, St.root, valC]; rfl) rfl | exact Val.loadAgg (n := 2) rfl rfl rfl rfl rfl rfl) (by simp only [St.put, List.set_cons_succ, List.set_cons_zero, valC, dIns, rIns, D.row, List.take_succ_cons, List.take_zero, List.map_cons, List.map_nil]; rfl) ?_
  refine TL.cF ((impl_InsLine_f x36).k) ?_
  refine TL.vE (Val.assign 1 rfl rfl) ?_
  refine TL.nil ?_
  show TC _ _ _ _ _ _
  refine TC.seq ?_
  have hz2 := insLine_small x36
  have hri := impl_ReadIns_f (⟨#[32]⟩ ++ insLine x36)
  rw [readIns_pad] at hri
  obtain ⟨oi, hoi⟩ : ∃ o, (if insLine x36 = ⟨#[]⟩ then none else some x36) = o := ⟨_, rfl⟩
  rw [hoi] at hri
  -- region 8
  refine TC.region ?_
  refine TL.vE (Val.move 1 rfl rfl) ?_
  refine TL.vE (Val.addS rfl rfl rfl (by first | decide | omega | (simp [lit_size, ByteArray.size_append, strOfNums_size]; omega))) ?_
  refine TL.opK rfl fun K hK => ?_
  refine OpT.callG rfl rfl rfl rfl rfl rfl ((hri).k) (by repeat first | exact .nil | refine Snaps.cons (.ro _) ?_ | refine Snaps.cons (.aggRo rfl) ?_ | refine Snaps.cons (.cptr _) ?_ | refine Snaps.cons (.fn _) ?_ | refine Snaps.cons (.ownRef rfl (by first | assumption | exact whole_map _ _ (fun w c hc => by simp only [D.row, List.mem_cons, List.not_mem_nil, or_false] at hc; subst hc; exact .v _))) ?_ | refine Snaps.cons (.aggR (by repeat first | exact .nil | refine SnapCs.cons (.ro _) ?_ | refine SnapCs.cons (.ref rfl (by first | assumption | exact whole_map _ _ (fun w c hc => by simp only [D.row, List.mem_cons, List.not_mem_nil, or_false] at hc; subst hc; exact .v _))) ?_)) ?_) rfl ?_ -- 42
  simp only [nrm, Nat.reduceBEq, Nat.reduceBNe, reduceIte]
  refine hK _ ?_
  clear hK K
  refine TL.vE (Val.move 1 rfl rfl) ?_
  refine TL.vE (Val.extract rfl rfl rfl) ?_
  refine TL.vE (Val.extract rfl rfl rfl) ?_
  refine TL.opK rfl fun K hK => ?_
  refine OpT.alloc rfl rfl rfl rfl rfl rfl ?_ -- 9
  simp only [nrm, Nat.reduceBEq, Nat.reduceBNe, reduceIte]
  refine hK _ ?_
  clear hK K
  refine TL.opK rfl fun K hK => ?_
  refine OpT.storeAgg rfl rfl rfl rfl rfl rfl (by simp [St.store1, St.storeAll, St.cellAt, St.isMem, St.root, St.wrote, St.kill, St.setRoot, TS.kill, TV.kill, C.kill, Rt.kill, hitR, hitP, shapeOf, setRow, setAt, rowAt, D.row, D.reRow, List.isPrefixOf]; rfl) ?_ -- None
  simp only [nrm, Nat.reduceBEq, Nat.reduceBNe, reduceIte]
  refine hK _ ?_
  clear hK K
  refine TL.vE (Val.assign 1 rfl rfl) ?_
  refine TL.nil ?_
  show TC _ _ _ _ _ _
  refine TC.seq ?_
  -- region 9
  refine TC.region ?_
  refine TL.vE (Val.move 1 rfl rfl) ?_
  refine TL.opK rfl fun K hK => ?_
  refine OpT.callD rfl rfl rfl rfl rfl (by repeat first | exact .nil | refine Snaps.cons (.ro _) ?_ | refine Snaps.cons (.aggRo rfl) ?_ | refine Snaps.cons (.cptr _) ?_ | refine Snaps.cons (.fn _) ?_ | refine Snaps.cons (.ownRef rfl (by first | assumption | exact whole_map _ _ (fun w c hc => by simp only [D.row, List.mem_cons, List.not_mem_nil, or_false] at hc; subst hc; exact .v _))) ?_ | refine Snaps.cons (.aggR (by repeat first | exact .nil | refine SnapCs.cons (.ro _) ?_ | refine SnapCs.cons (.ref rfl (by first | assumption | exact whole_map _ _ (fun w c hc => by simp only [D.row, List.mem_cons, List.not_mem_nil, or_false] at hc; subst hc; exact .v _))) ?_)) ?_) ((spec_DrawReadAct_f ds hby hn).k) (fun x => ⟨_, rfl⟩) fun x46 hp46 => ?_
  simp only [nrm, Nat.reduceBEq, Nat.reduceBNe, reduceIte]
  refine hK _ ?_
  clear hK K
  refine TL.vE (Val.assign 1 rfl rfl) ?_
  refine TL.nil ?_
  show TC _ _ _ _ _ _
  refine TC.seq ?_
  -- region 10
  refine TC.region ?_
  refine TL.vE (Val.move 1 rfl rfl) ?_
  refine TL.opK rfl fun K hK => ?_
  refine OpT.callG rfl rfl rfl rfl rfl rfl ((impl_ReadAct_f x46).k) (by repeat first | exact .nil | refine Snaps.cons (.ro _) ?_ | refine Snaps.cons (.aggRo rfl) ?_ | refine Snaps.cons (.cptr _) ?_ | refine Snaps.cons (.fn _) ?_ | refine Snaps.cons (.ownRef rfl (by first | assumption | exact whole_map _ _ (fun w c hc => by simp only [D.row, List.mem_cons, List.not_mem_nil, or_false] at hc; subst hc; exact .v _))) ?_ | refine Snaps.cons (.aggR (by repeat first | exact .nil | refine SnapCs.cons (.ro _) ?_ | refine SnapCs.cons (.ref rfl (by first | assumption | exact whole_map _ _ (fun w c hc => by simp only [D.row, List.mem_cons, List.not_mem_nil, or_false] at hc; subst hc; exact .v _))) ?_)) ?_) rfl ?_ -- 49
  simp only [nrm, Nat.reduceBEq, Nat.reduceBNe, reduceIte]
  refine hK _ ?_
  clear hK K
  refine TL.vE (Val.move 1 rfl rfl) ?_
  refine TL.vE (Val.extract rfl rfl rfl) ?_
  refine TL.vE (Val.extract rfl rfl rfl) ?_
  refine TL.opK rfl fun K hK => ?_
  refine OpT.alloc rfl rfl rfl rfl rfl rfl ?_ -- 12
  simp only [nrm, Nat.reduceBEq, Nat.reduceBNe, reduceIte]
  refine hK _ ?_
  clear hK K
  refine TL.opK rfl fun K hK => ?_
  refine OpT.storeAgg rfl rfl rfl rfl rfl rfl (by simp [St.store1, St.storeAll, St.cellAt, St.isMem, St.root, St.wrote, St.kill, St.setRoot, TS.kill, TV.kill, C.kill, Rt.kill, hitR, hitP, shapeOf, setRow, setAt, rowAt, D.row, D.reRow, List.isPrefixOf]; rfl) ?_ -- None
  simp only [nrm, Nat.reduceBEq, Nat.reduceBNe, reduceIte]
  refine hK _ ?_
  clear hK K
  refine TL.vE (Val.assign 1 rfl rfl) ?_
  refine TL.nil ?_
  show TC _ _ _ _ _ _
  refine TC.seq ?_
  -- region 11
  refine TC.region ?_
  refine TL.vE (Val.move 1 rfl rfl) ?_
  refine TL.opK rfl fun K hK => ?_
  refine OpT.callG rfl rfl rfl rfl rfl rfl ((spec_ReadAct_f x46).k) (by repeat first | exact .nil | refine Snaps.cons (.ro _) ?_ | refine Snaps.cons (.aggRo rfl) ?_ | refine Snaps.cons (.cptr _) ?_ | refine Snaps.cons (.fn _) ?_ | refine Snaps.cons (.ownRef rfl (by first | assumption | exact whole_map _ _ (fun w c hc => by simp only [D.row, List.mem_cons, List.not_mem_nil, or_false] at hc; subst hc; exact .v _))) ?_ | refine Snaps.cons (.aggR (by repeat first | exact .nil | refine SnapCs.cons (.ro _) ?_ | refine SnapCs.cons (.ref rfl (by first | assumption | exact whole_map _ _ (fun w c hc => by simp only [D.row, List.mem_cons, List.not_mem_nil, or_false] at hc; subst hc; exact .v _))) ?_)) ?_) rfl ?_ -- 54
  simp only [nrm, Nat.reduceBEq, Nat.reduceBNe, reduceIte]
  refine hK _ ?_
  clear hK K
  refine TL.vE (Val.move 1 rfl rfl) ?_
  refine TL.vE (Val.extract rfl rfl rfl) ?_
  refine TL.vE (Val.extract rfl rfl rfl) ?_
  refine TL.opK rfl fun K hK => ?_
  refine OpT.alloc rfl rfl rfl rfl rfl rfl ?_ -- 14
  simp only [nrm, Nat.reduceBEq, Nat.reduceBNe, reduceIte]
  refine hK _ ?_
  clear hK K
  refine TL.opK rfl fun K hK => ?_
  refine OpT.storeAgg rfl rfl rfl rfl rfl rfl (by simp [St.store1, St.storeAll, St.cellAt, St.isMem, St.root, St.wrote, St.kill, St.setRoot, TS.kill, TV.kill, C.kill, Rt.kill, hitR, hitP, shapeOf, setRow, setAt, rowAt, D.row, D.reRow, List.isPrefixOf]; rfl) ?_ -- None
  simp only [nrm, Nat.reduceBEq, Nat.reduceBNe, reduceIte]
  refine hK _ ?_
  clear hK K
  refine TL.vE (Val.assign 1 rfl rfl) ?_
  refine TL.nil ?_
  show TC _ _ _ _ _ _
  refine TC.seq ?_
  -- region 12
  refine TC.region ?_
  refine TL.vE (Val.move 1 rfl rfl) ?_
  refine TL.opK rfl fun K hK => ?_
  refine OpT.callD rfl rfl rfl rfl rfl (by repeat first | exact .nil | refine Snaps.cons (.ro _) ?_ | refine Snaps.cons (.aggRo rfl) ?_ | refine Snaps.cons (.cptr _) ?_ | refine Snaps.cons (.fn _) ?_ | refine Snaps.cons (.ownRef rfl (by first | assumption | exact whole_map _ _ (fun w c hc => by simp only [D.row, List.mem_cons, List.not_mem_nil, or_false] at hc; subst hc; exact .v _))) ?_ | refine Snaps.cons (.aggR (by repeat first | exact .nil | refine SnapCs.cons (.ro _) ?_ | refine SnapCs.cons (.ref rfl (by first | assumption | exact whole_map _ _ (fun w c hc => by simp only [D.row, List.mem_cons, List.not_mem_nil, or_false] at hc; subst hc; exact .v _))) ?_)) ?_) ((spec_DrawReadIns_f ds hby hn).k) (fun x => ⟨_, rfl⟩) fun x58 hp58 => ?_
  simp only [nrm, Nat.reduceBEq, Nat.reduceBNe, reduceIte]
  refine hK _ ?_
  clear hK K
  refine TL.vE (Val.assign 1 rfl rfl) ?_
  refine TL.nil ?_
  show TC _ _ _ _ _ _
  refine TC.seq ?_
  -- region 13
  refine TC.region ?_
  refine TL.vE (Val.move 1 rfl rfl) ?_
  refine TL.opK rfl fun K hK => ?_
  refine OpT.callG rfl rfl rfl rfl rfl rfl ((impl_ReadIns_f x58).k) (by repeat first | exact .nil | refine Snaps.cons (.ro _) ?_ | refine Snaps.cons (.aggRo rfl) ?_ | refine Snaps.cons (.cptr _) ?_ | refine Snaps.cons (.fn _) ?_ | refine Snaps.cons (.ownRef rfl (by first | assumption | exact whole_map _ _ (fun w c hc => by simp only [D.row, List.mem_cons, List.not_mem_nil, or_false] at hc; subst hc; exact .v _))) ?_ | refine Snaps.cons (.aggR (by repeat first | exact .nil | refine SnapCs.cons (.ro _) ?_ | refine SnapCs.cons (.ref rfl (by first | assumption | exact whole_map _ _ (fun w c hc => by simp only [D.row, List.mem_cons, List.not_mem_nil, or_false] at hc; subst hc; exact .v _))) ?_)) ?_) rfl ?_ -- 61
  simp only [nrm, Nat.reduceBEq, Nat.reduceBNe, reduceIte]
  refine hK _ ?_
  clear hK K
  refine TL.vE (Val.move 1 rfl rfl) ?_
  refine TL.vE (Val.extract rfl rfl rfl) ?_
  refine TL.vE (Val.extract rfl rfl rfl) ?_
  refine TL.opK rfl fun K hK => ?_
  refine OpT.alloc rfl rfl rfl rfl rfl rfl ?_ -- 17
  simp only [nrm, Nat.reduceBEq, Nat.reduceBNe, reduceIte]
  refine hK _ ?_
  clear hK K
  refine TL.opK rfl fun K hK => ?_
  refine OpT.storeAgg rfl rfl rfl rfl rfl rfl (by simp [St.store1, St.storeAll, St.cellAt, St.isMem, St.root, St.wrote, St.kill, St.setRoot, TS.kill, TV.kill, C.kill, Rt.kill, hitR, hitP, shapeOf, setRow, setAt, rowAt, D.row, D.reRow, List.isPrefixOf]; rfl) ?_ -- None
  simp only [nrm, Nat.reduceBEq, Nat.reduceBNe, reduceIte]
  refine hK _ ?_
  clear hK K
  refine TL.vE (Val.assign 1 rfl rfl) ?_
  refine TL.nil ?_
  show TC _ _ _ _ _ _
  refine TC.seq ?_
  -- region 14
  refine TC.region ?_
  refine TL.vE (Val.move 1 rfl rfl) ?_
  refine TL.opK rfl fun K hK => ?_
  refine OpT.callG rfl rfl rfl rfl rfl rfl ((spec_ReadIns_f x58).k) (by repeat first | exact .nil | refine Snaps.cons (.ro _) ?_ | refine Snaps.cons (.aggRo rfl) ?_ | refine Snaps.cons (.cptr _) ?_ | refine Snaps.cons (.fn _) ?_ | refine Snaps.cons (.ownRef rfl (by first | assumption | exact whole_map _ _ (fun w c hc => by simp only [D.row, List.mem_cons, List.not_mem_nil, or_false] at hc; subst hc; exact .v _))) ?_ | refine Snaps.cons (.aggR (by repeat first | exact .nil | refine SnapCs.cons (.ro _) ?_ | refine SnapCs.cons (.ref rfl (by first | assumption | exact whole_map _ _ (fun w c hc => by simp only [D.row, List.mem_cons, List.not_mem_nil, or_false] at hc; subst hc; exact .v _))) ?_)) ?_) rfl ?_ -- 66
  simp only [nrm, Nat.reduceBEq, Nat.reduceBNe, reduceIte]
  refine hK _ ?_
  clear hK K
  refine TL.vE (Val.move 1 rfl rfl) ?_
  refine TL.vE (Val.extract rfl rfl rfl) ?_
  refine TL.vE (Val.extract rfl rfl rfl) ?_
  refine TL.opK rfl fun K hK => ?_
  refine OpT.alloc rfl rfl rfl rfl rfl rfl ?_ -- 19
  simp only [nrm, Nat.reduceBEq, Nat.reduceBNe, reduceIte]
  refine hK _ ?_
  clear hK K
  refine TL.opK rfl fun K hK => ?_
  refine OpT.storeAgg rfl rfl rfl rfl rfl rfl (by simp [St.store1, St.storeAll, St.cellAt, St.isMem, St.root, St.wrote, St.kill, St.setRoot, TS.kill, TV.kill, C.kill, Rt.kill, hitR, hitP, shapeOf, setRow, setAt, rowAt, D.row, D.reRow, List.isPrefixOf]; rfl) ?_ -- None
  simp only [nrm, Nat.reduceBEq, Nat.reduceBNe, reduceIte]
  refine hK _ ?_
  clear hK K
  refine TL.vE (Val.assign 1 rfl rfl) ?_
  refine TL.nil ?_
  show TC _ _ _ _ _ _
  refine TC.seq ?_
  -- region 15
  refine TC.region ?_
  refine TL.vE (Val.move 1 rfl rfl) ?_
  refine TL.opK rfl fun K hK => ?_
  refine OpT.callD rfl rfl rfl rfl rfl (by repeat first | exact .nil | refine Snaps.cons (.ro _) ?_ | refine Snaps.cons (.aggRo rfl) ?_ | refine Snaps.cons (.cptr _) ?_ | refine Snaps.cons (.fn _) ?_ | refine Snaps.cons (.ownRef rfl (by first | assumption | exact whole_map _ _ (fun w c hc => by simp only [D.row, List.mem_cons, List.not_mem_nil, or_false] at hc; subst hc; exact .v _))) ?_ | refine Snaps.cons (.aggR (by repeat first | exact .nil | refine SnapCs.cons (.ro _) ?_ | refine SnapCs.cons (.ref rfl (by first | assumption | exact whole_map _ _ (fun w c hc => by simp only [D.row, List.mem_cons, List.not_mem_nil, or_false] at hc; subst hc; exact .v _))) ?_)) ?_) ((spec_DrawActName_f ds hby hn).k) (fun x => ⟨_, rfl⟩) fun x70 hp70 => ?_
  simp only [nrm, Nat.reduceBEq, Nat.reduceBNe, reduceIte]
  refine hK _ ?_
  clear hK K
  refine TL.vE (Val.assign 1 rfl rfl) ?_
  refine TL.nil ?_
  show TC _ _ _ _ _ _
  refine TC.seq ?_
  -- region 16
  refine TC.region ?_
  refine TL.vE (Val.move 1 rfl rfl) ?_
  refine TL.valE rfl (by first | exact Val.loadCAgg (n := 6) rfl rfl rfl rfl (Nat.le_of_ble_eq_true rfl) | exact Val.loadAgg (n := 6) rfl rfl rfl rfl (by simp [St.cellsAt, St.cellAt, St.root, valC]; rfl) rfl | exact Val.loadAgg (n := 6) rfl rfl rfl rfl rfl rfl) (by simp only [St.put, List.set_cons_succ, List.set_cons_zero, valC, dAct, rAct, D.row, List.take_succ_cons, List.take_zero, List.map_cons, List.map_nil]; rfl) ?_
  refine TL.cF ((spec_ActLine_f x25).k) ?_
  refine TL.vE (by exact Val.cast (Val.eqlS rfl rfl rfl) (congrArg (fun z : Bool => (B z : TS)) (show _ = true by simp))) ?_
  refine TL.vE (Val.move 1 rfl rfl) ?_
  refine TL.gE rfl rfl (Val.move 1 rfl rfl) ?_
  refine TL.gE rfl rfl (Val.move 1 rfl rfl) ?_
  refine TL.gE rfl rfl (Val.neqS rfl rfl rfl) ?_
  refine TL.gE rfl rfl (by exact Val.cast (Val.eqlB rfl rfl rfl rfl) (congrArg (fun z : Bool => (B z : TS)) (show _ = true by subst hoa; rw [ba_beq]; by_cases h : actLine x25 = ⟨#[]⟩ <;> simp [h]))) ?_
  refine TL.vE (Val.pickT rfl rfl rfl rfl) ?_
  refine TL.vE (Val.move 1 rfl rfl) ?_
  refine TL.gE rfl rfl (Val.move 1 rfl rfl) ?_
  refine TL.gE rfl rfl (Val.not rfl rfl) ?_
  refine TL.gE rfl rfl (Val.move 1 rfl rfl) ?_
  refine TL.splitG 13 rfl (fun hg13 => ?_) (fun hg13 => ?_)
  · iterate 3 (refine TL.skip (nope_b rfl rfl hg13) (by simp only [nput]; rfl) ?_)
    refine TL.gE rfl rfl (Val.pickT rfl rfl hg13 rfl) ?_
    refine TL.vE (Val.pickT rfl rfl rfl rfl) ?_
    refine TL.vE (Val.move 1 rfl rfl) ?_
    refine TL.gE rfl rfl (Val.move 1 rfl rfl) ?_
    refine TL.guardE rfl rfl rfl (by first | exact Val.loadCAgg (n := 2) rfl rfl rfl rfl (Nat.le_of_ble_eq_true rfl) | exact Val.loadAgg (n := 2) rfl rfl rfl rfl (by simp [St.cellsAt, St.cellAt, St.root, valC]; rfl) rfl | exact Val.loadAgg (n := 2) rfl rfl rfl rfl rfl rfl) (by simp only [St.put, List.set_cons_succ, List.set_cons_zero, valC, dIns, rIns, D.row, List.take_succ_cons, List.take_zero, List.map_cons, List.map_nil]; rfl) ?_
    refine TL.cF ((spec_InsLine_f x36).k) ?_ (yes_some rfl rfl rfl)
    refine TL.gE rfl rfl (by exact Val.cast (Val.eqlS rfl rfl rfl) (congrArg (fun z : Bool => (B z : TS)) (show _ = true by simp))) ?_
    refine TL.vE (Val.pickT rfl rfl rfl rfl) ?_
    refine TL.vE (Val.move 1 rfl rfl) ?_
    refine TL.gE rfl rfl (Val.move 1 rfl rfl) ?_
    refine TL.gE rfl rfl (Val.move 1 rfl rfl) ?_
    refine TL.gE rfl rfl (Val.neqS rfl rfl rfl) ?_
    refine TL.gE rfl rfl (by exact Val.cast (Val.eqlB rfl rfl rfl rfl) (congrArg (fun z : Bool => (B z : TS)) (show _ = true by subst hoi; rw [ba_beq]; by_cases h : insLine x36 = ⟨#[]⟩ <;> simp [h]))) ?_
    refine TL.vE (Val.pickT rfl rfl rfl rfl) ?_
    refine TL.vE (Val.move 1 rfl rfl) ?_
    refine TL.gE rfl rfl (Val.move 1 rfl rfl) ?_
    refine TL.gE rfl rfl (Val.not rfl rfl) ?_
    refine TL.gE rfl rfl (Val.move 1 rfl rfl) ?_
    refine TL.splitG 34 rfl (fun hg34 => ?_) (fun hg34 => ?_)
    · iterate 3 (refine TL.skip (nope_b rfl rfl hg34) (by simp only [nput]; rfl) ?_)
      refine TL.gE rfl rfl (Val.pickT rfl rfl hg34 rfl) ?_
      refine TL.vE (Val.pickT rfl rfl rfl rfl) ?_
      refine TL.vE (Val.move 1 rfl rfl) ?_
      refine TL.gE rfl rfl (Val.move 1 rfl rfl) ?_
      refine TL.gE rfl rfl (Val.move 1 rfl rfl) ?_
      refine TL.gE rfl rfl (by exact Val.cast (Val.eqlB rfl rfl rfl rfl) (congrArg (fun z : Bool => (B z : TS)) (show _ = true by simp))) ?_
      refine TL.vE (Val.pickT rfl rfl rfl rfl) ?_
      refine TL.vE (Val.move 1 rfl rfl) ?_
      refine TL.guardE rfl rfl rfl (by first | exact Val.loadCAgg (n := 6) rfl rfl rfl rfl (Nat.le_of_ble_eq_true rfl) | exact Val.loadAgg (n := 6) rfl rfl rfl rfl (by simp [St.cellsAt, St.cellAt, St.root, valC]; rfl) rfl | exact Val.loadAgg (n := 6) rfl rfl rfl rfl rfl rfl) (by simp only [St.put, List.set_cons_succ, List.set_cons_zero, valC, dAct, rAct, D.row, List.take_succ_cons, List.take_zero, List.map_cons, List.map_nil]; rfl) ?_
      refine TL.guardE rfl rfl rfl (by first | exact Val.loadCAgg (n := 6) rfl rfl rfl rfl (Nat.le_of_ble_eq_true rfl) | exact Val.loadAgg (n := 6) rfl rfl rfl rfl (by simp [St.cellsAt, St.cellAt, St.root, valC]; rfl) rfl | exact Val.loadAgg (n := 6) rfl rfl rfl rfl rfl rfl) (by simp only [St.put, List.set_cons_succ, List.set_cons_zero, valC, dAct, rAct, D.row, List.take_succ_cons, List.take_zero, List.map_cons, List.map_nil]; rfl) ?_
      refine TL.gE rfl rfl (by exact Val.cast (Val.eqlA rfl rfl rfl rfl rfl rfl (by kernel_rfl) (by kernel_rfl) rfl) (congrArg (fun z : Bool => (B z : TS)) (show _ = true by simp [eqVs, eqV]))) ?_
      refine TL.vE (Val.pickT rfl rfl rfl rfl) ?_
      refine TL.vE (Val.move 1 rfl rfl) ?_
      refine TL.gE rfl rfl (Val.move 1 rfl rfl) ?_
      refine TL.gE rfl rfl (Val.move 1 rfl rfl) ?_
      refine TL.gE rfl rfl (by exact Val.cast (Val.eqlB rfl rfl rfl rfl) (congrArg (fun z : Bool => (B z : TS)) (show _ = true by simp))) ?_
      refine TL.vE (Val.pickT rfl rfl rfl rfl) ?_
      refine TL.vE (Val.move 1 rfl rfl) ?_
      refine TL.guardE rfl rfl rfl (by first | exact Val.loadCAgg (n := 2) rfl rfl rfl rfl (Nat.le_of_ble_eq_true rfl) | exact Val.loadAgg (n := 2) rfl rfl rfl rfl (by simp [St.cellsAt, St.cellAt, St.root, valC]; rfl) rfl | exact Val.loadAgg (n := 2) rfl rfl rfl rfl rfl rfl) (by simp only [St.put, List.set_cons_succ, List.set_cons_zero, valC, dIns, rIns, D.row, List.take_succ_cons, List.take_zero, List.map_cons, List.map_nil]; rfl) ?_
      refine TL.guardE rfl rfl rfl (by first | exact Val.loadCAgg (n := 2) rfl rfl rfl rfl (Nat.le_of_ble_eq_true rfl) | exact Val.loadAgg (n := 2) rfl rfl rfl rfl (by simp [St.cellsAt, St.cellAt, St.root, valC]; rfl) rfl | exact Val.loadAgg (n := 2) rfl rfl rfl rfl rfl rfl) (by simp only [St.put, List.set_cons_succ, List.set_cons_zero, valC, dIns, rIns, D.row, List.take_succ_cons, List.take_zero, List.map_cons, List.map_nil]; rfl) ?_
      refine TL.gE rfl rfl (by exact Val.cast (Val.eqlA rfl rfl rfl rfl rfl rfl (by kernel_rfl) (by kernel_rfl) rfl) (congrArg (fun z : Bool => (B z : TS)) (show _ = true by simp [eqVs, eqV]))) ?_
      refine TL.vE (Val.pickT rfl rfl rfl rfl) ?_
      refine TL.vE (Val.move 1 rfl rfl) ?_
      refine TL.gE rfl rfl (Val.move 1 rfl rfl) ?_
      refine TL.cF ((impl_ActName_f x70).k) ?_ (yes_some rfl rfl rfl)
      refine TL.gE rfl rfl (Val.move 1 rfl rfl) ?_
      refine TL.cF ((spec_ActName_f x70).k) ?_ (yes_some rfl rfl rfl)
      refine TL.gE rfl rfl (by exact Val.cast (Val.eqlS rfl rfl rfl) (congrArg (fun z : Bool => (B z : TS)) (show _ = true by simp))) ?_
      refine TL.vE (Val.pickT rfl rfl rfl rfl) ?_
      refine TL.vE (Val.move 1 rfl rfl) ?_
      refine TL.gE rfl rfl (Val.move 1 rfl rfl) ?_
      refine TL.cF ((impl_ActUses_f x70).k) ?_ (yes_some rfl rfl rfl)
      refine TL.gE rfl rfl (Val.move 1 rfl rfl) ?_
      refine TL.cF ((spec_ActUses_f x70).k) ?_ (yes_some rfl rfl rfl)
      refine TL.gE rfl rfl (by exact Val.cast (Val.eqlS rfl rfl rfl) (congrArg (fun z : Bool => (B z : TS)) (show _ = true by simp))) ?_
      refine TL.vE (Val.pickT rfl rfl rfl rfl) ?_
      refine TL.vE (Val.move 1 rfl rfl) ?_
      refine TL.gE rfl rfl (Val.build (parts := [(0, (Go.Operand.const (Go.Value.int Go.IntKind.i64 17)))]) (place := [(0, 1), (1, 1), (2, 1), (3, 1), (4, 1), (5, 1)]) rfl rfl rfl rfl rfl rfl rfl rfl rfl (by simp [fillC]; rfl)) ?_
      refine TL.cF ((impl_ActLine_f ⟨17, 0, 0, 0, 0, 0⟩).k) ?_ (yes_some rfl rfl rfl)
      refine TL.gE rfl rfl (by exact Val.cast (Val.eqlS rfl rfl rfl) (congrArg (fun z : Bool => (B z : TS)) (show _ = true by decide +kernel))) ?_
      refine TL.vE (Val.pickT rfl rfl rfl rfl) ?_
      refine TL.vE (Val.assign 1 rfl rfl) ?_
      refine TL.nil ?_
      show TC _ _ _ _ _ _
      refine TC.ret ?_
      exact ⟨.inr rfl, [_], [_], _, rfl, by decide, rfl, by simp [refV, refC, valC], rfl, rfl⟩
    · refine TL.guardE rfl rfl hg34 (by first | exact Val.loadCAgg (n := 2) rfl rfl rfl rfl (Nat.le_of_ble_eq_true rfl) | exact Val.loadAgg (n := 2) rfl rfl rfl rfl (by simp [St.cellsAt, St.cellAt, St.root, valC]; rfl) rfl | exact Val.loadAgg (n := 2) rfl rfl rfl rfl rfl rfl) (by simp only [St.put, List.set_cons_succ, List.set_cons_zero, valC, dIns, rIns, D.row, List.take_succ_cons, List.take_zero, List.map_cons, List.map_nil]; rfl) ?_
      refine TL.guardE rfl rfl hg34 (by first | exact Val.loadCAgg (n := 2) rfl rfl rfl rfl (Nat.le_of_ble_eq_true rfl) | exact Val.loadAgg (n := 2) rfl rfl rfl rfl (by simp [St.cellsAt, St.cellAt, St.root, valC]; rfl) rfl | exact Val.loadAgg (n := 2) rfl rfl rfl rfl rfl rfl) (by simp only [St.put, List.set_cons_succ, List.set_cons_zero, valC, dIns, rIns, D.row, List.take_succ_cons, List.take_zero, List.map_cons, List.map_nil]; rfl) ?_
      refine TL.gE rfl hg34 (by exact Val.cast (Val.eqlA rfl rfl rfl rfl rfl rfl (by kernel_rfl) (by kernel_rfl) rfl) (congrArg (fun z : Bool => (B z : TS)) (show _ = true by (have hs : oi.isSome = true := (by simpa using hg34); rcases Classical.em (insLine x36 = ⟨#[]⟩) with h | h; exact absurd hs (by rw [← hoi, if_pos h]; simp); rw [← hoi, if_neg h]; simp [eqVs, eqV])))) ?_
      refine TL.gE rfl rfl (Val.pickF rfl rfl hg34 rfl) ?_
      refine TL.vE (Val.pickT rfl rfl rfl rfl) ?_
      refine TL.vE (Val.move 1 rfl rfl) ?_
      refine TL.gE rfl rfl (Val.move 1 rfl rfl) ?_
      refine TL.gE rfl rfl (Val.move 1 rfl rfl) ?_
      refine TL.gE rfl rfl (by exact Val.cast (Val.eqlB rfl rfl rfl rfl) (congrArg (fun z : Bool => (B z : TS)) (show _ = true by simp))) ?_
      refine TL.vE (Val.pickT rfl rfl rfl rfl) ?_
      refine TL.vE (Val.move 1 rfl rfl) ?_
      refine TL.guardE rfl rfl rfl (by first | exact Val.loadCAgg (n := 6) rfl rfl rfl rfl (Nat.le_of_ble_eq_true rfl) | exact Val.loadAgg (n := 6) rfl rfl rfl rfl (by simp [St.cellsAt, St.cellAt, St.root, valC]; rfl) rfl | exact Val.loadAgg (n := 6) rfl rfl rfl rfl rfl rfl) (by simp only [St.put, List.set_cons_succ, List.set_cons_zero, valC, dAct, rAct, D.row, List.take_succ_cons, List.take_zero, List.map_cons, List.map_nil]; rfl) ?_
      refine TL.guardE rfl rfl rfl (by first | exact Val.loadCAgg (n := 6) rfl rfl rfl rfl (Nat.le_of_ble_eq_true rfl) | exact Val.loadAgg (n := 6) rfl rfl rfl rfl (by simp [St.cellsAt, St.cellAt, St.root, valC]; rfl) rfl | exact Val.loadAgg (n := 6) rfl rfl rfl rfl rfl rfl) (by simp only [St.put, List.set_cons_succ, List.set_cons_zero, valC, dAct, rAct, D.row, List.take_succ_cons, List.take_zero, List.map_cons, List.map_nil]; rfl) ?_
      refine TL.gE rfl rfl (by exact Val.cast (Val.eqlA rfl rfl rfl rfl rfl rfl (by kernel_rfl) (by kernel_rfl) rfl) (congrArg (fun z : Bool => (B z : TS)) (show _ = true by simp [eqVs, eqV]))) ?_
      refine TL.vE (Val.pickT rfl rfl rfl rfl) ?_
      refine TL.vE (Val.move 1 rfl rfl) ?_
      refine TL.gE rfl rfl (Val.move 1 rfl rfl) ?_
      refine TL.gE rfl rfl (Val.move 1 rfl rfl) ?_
      refine TL.gE rfl rfl (by exact Val.cast (Val.eqlB rfl rfl rfl rfl) (congrArg (fun z : Bool => (B z : TS)) (show _ = true by simp))) ?_
      refine TL.vE (Val.pickT rfl rfl rfl rfl) ?_
      refine TL.vE (Val.move 1 rfl rfl) ?_
      refine TL.guardE rfl rfl rfl (by first | exact Val.loadCAgg (n := 2) rfl rfl rfl rfl (Nat.le_of_ble_eq_true rfl) | exact Val.loadAgg (n := 2) rfl rfl rfl rfl (by simp [St.cellsAt, St.cellAt, St.root, valC]; rfl) rfl | exact Val.loadAgg (n := 2) rfl rfl rfl rfl rfl rfl) (by simp only [St.put, List.set_cons_succ, List.set_cons_zero, valC, dIns, rIns, D.row, List.take_succ_cons, List.take_zero, List.map_cons, List.map_nil]; rfl) ?_
      refine TL.guardE rfl rfl rfl (by first | exact Val.loadCAgg (n := 2) rfl rfl rfl rfl (Nat.le_of_ble_eq_true rfl) | exact Val.loadAgg (n := 2) rfl rfl rfl rfl (by simp [St.cellsAt, St.cellAt, St.root, valC]; rfl) rfl | exact Val.loadAgg (n := 2) rfl rfl rfl rfl rfl rfl) (by simp only [St.put, List.set_cons_succ, List.set_cons_zero, valC, dIns, rIns, D.row, List.take_succ_cons, List.take_zero, List.map_cons, List.map_nil]; rfl) ?_
      refine TL.gE rfl rfl (by exact Val.cast (Val.eqlA rfl rfl rfl rfl rfl rfl (by kernel_rfl) (by kernel_rfl) rfl) (congrArg (fun z : Bool => (B z : TS)) (show _ = true by simp [eqVs, eqV]))) ?_
      refine TL.vE (Val.pickT rfl rfl rfl rfl) ?_
      refine TL.vE (Val.move 1 rfl rfl) ?_
      refine TL.gE rfl rfl (Val.move 1 rfl rfl) ?_
      refine TL.cF ((impl_ActName_f x70).k) ?_ (yes_some rfl rfl rfl)
      refine TL.gE rfl rfl (Val.move 1 rfl rfl) ?_
      refine TL.cF ((spec_ActName_f x70).k) ?_ (yes_some rfl rfl rfl)
      refine TL.gE rfl rfl (by exact Val.cast (Val.eqlS rfl rfl rfl) (congrArg (fun z : Bool => (B z : TS)) (show _ = true by simp))) ?_
      refine TL.vE (Val.pickT rfl rfl rfl rfl) ?_
      refine TL.vE (Val.move 1 rfl rfl) ?_
      refine TL.gE rfl rfl (Val.move 1 rfl rfl) ?_
      refine TL.cF ((impl_ActUses_f x70).k) ?_ (yes_some rfl rfl rfl)
      refine TL.gE rfl rfl (Val.move 1 rfl rfl) ?_
      refine TL.cF ((spec_ActUses_f x70).k) ?_ (yes_some rfl rfl rfl)
      refine TL.gE rfl rfl (by exact Val.cast (Val.eqlS rfl rfl rfl) (congrArg (fun z : Bool => (B z : TS)) (show _ = true by simp))) ?_
      refine TL.vE (Val.pickT rfl rfl rfl rfl) ?_
      refine TL.vE (Val.move 1 rfl rfl) ?_
      refine TL.gE rfl rfl (Val.build (parts := [(0, (Go.Operand.const (Go.Value.int Go.IntKind.i64 17)))]) (place := [(0, 1), (1, 1), (2, 1), (3, 1), (4, 1), (5, 1)]) rfl rfl rfl rfl rfl rfl rfl rfl rfl (by simp [fillC]; rfl)) ?_
      refine TL.cF ((impl_ActLine_f ⟨17, 0, 0, 0, 0, 0⟩).k) ?_ (yes_some rfl rfl rfl)
      refine TL.gE rfl rfl (by exact Val.cast (Val.eqlS rfl rfl rfl) (congrArg (fun z : Bool => (B z : TS)) (show _ = true by decide +kernel))) ?_
      refine TL.vE (Val.pickT rfl rfl rfl rfl) ?_
      refine TL.vE (Val.assign 1 rfl rfl) ?_
      refine TL.nil ?_
      show TC _ _ _ _ _ _
      refine TC.ret ?_
      exact ⟨.inr rfl, [_], [_], _, rfl, by decide, rfl, by simp [refV, refC, valC], rfl, rfl⟩
  · refine TL.guardE rfl rfl hg13 (by first | exact Val.loadCAgg (n := 6) rfl rfl rfl rfl (Nat.le_of_ble_eq_true rfl) | exact Val.loadAgg (n := 6) rfl rfl rfl rfl (by simp [St.cellsAt, St.cellAt, St.root, valC]; rfl) rfl | exact Val.loadAgg (n := 6) rfl rfl rfl rfl rfl rfl) (by simp only [St.put, List.set_cons_succ, List.set_cons_zero, valC, dAct, rAct, D.row, List.take_succ_cons, List.take_zero, List.map_cons, List.map_nil]; rfl) ?_
    refine TL.guardE rfl rfl hg13 (by first | exact Val.loadCAgg (n := 6) rfl rfl rfl rfl (Nat.le_of_ble_eq_true rfl) | exact Val.loadAgg (n := 6) rfl rfl rfl rfl (by simp [St.cellsAt, St.cellAt, St.root, valC]; rfl) rfl | exact Val.loadAgg (n := 6) rfl rfl rfl rfl rfl rfl) (by simp only [St.put, List.set_cons_succ, List.set_cons_zero, valC, dAct, rAct, D.row, List.take_succ_cons, List.take_zero, List.map_cons, List.map_nil]; rfl) ?_
    refine TL.gE rfl hg13 (by exact Val.cast (Val.eqlA rfl rfl rfl rfl rfl rfl (by kernel_rfl) (by kernel_rfl) rfl) (congrArg (fun z : Bool => (B z : TS)) (show _ = true by (have hs : oa.isSome = true := (by simpa using hg13); rcases Classical.em (actLine x25 = ⟨#[]⟩) with h | h; exact absurd hs (by rw [← hoa, if_pos h]; simp); rw [← hoa, if_neg h]; simp [eqVs, eqV])))) ?_
    refine TL.gE rfl rfl (Val.pickF rfl rfl hg13 rfl) ?_
    refine TL.vE (Val.pickT rfl rfl rfl rfl) ?_
    refine TL.vE (Val.move 1 rfl rfl) ?_
    refine TL.gE rfl rfl (Val.move 1 rfl rfl) ?_
    refine TL.guardE rfl rfl rfl (by first | exact Val.loadCAgg (n := 2) rfl rfl rfl rfl (Nat.le_of_ble_eq_true rfl) | exact Val.loadAgg (n := 2) rfl rfl rfl rfl (by simp [St.cellsAt, St.cellAt, St.root, valC]; rfl) rfl | exact Val.loadAgg (n := 2) rfl rfl rfl rfl rfl rfl) (by simp only [St.put, List.set_cons_succ, List.set_cons_zero, valC, dIns, rIns, D.row, List.take_succ_cons, List.take_zero, List.map_cons, List.map_nil]; rfl) ?_
    refine TL.cF ((spec_InsLine_f x36).k) ?_ (yes_some rfl rfl rfl)
    refine TL.gE rfl rfl (by exact Val.cast (Val.eqlS rfl rfl rfl) (congrArg (fun z : Bool => (B z : TS)) (show _ = true by simp))) ?_
    refine TL.vE (Val.pickT rfl rfl rfl rfl) ?_
    refine TL.vE (Val.move 1 rfl rfl) ?_
    refine TL.gE rfl rfl (Val.move 1 rfl rfl) ?_
    refine TL.gE rfl rfl (Val.move 1 rfl rfl) ?_
    refine TL.gE rfl rfl (Val.neqS rfl rfl rfl) ?_
    refine TL.gE rfl rfl (by exact Val.cast (Val.eqlB rfl rfl rfl rfl) (congrArg (fun z : Bool => (B z : TS)) (show _ = true by subst hoi; rw [ba_beq]; by_cases h : insLine x36 = ⟨#[]⟩ <;> simp [h]))) ?_
    refine TL.vE (Val.pickT rfl rfl rfl rfl) ?_
    refine TL.vE (Val.move 1 rfl rfl) ?_
    refine TL.gE rfl rfl (Val.move 1 rfl rfl) ?_
    refine TL.gE rfl rfl (Val.not rfl rfl) ?_
    refine TL.gE rfl rfl (Val.move 1 rfl rfl) ?_
    refine TL.splitG 34 rfl (fun hg34 => ?_) (fun hg34 => ?_)
    · iterate 3 (refine TL.skip (nope_b rfl rfl hg34) (by simp only [nput]; rfl) ?_)
      refine TL.gE rfl rfl (Val.pickT rfl rfl hg34 rfl) ?_
      refine TL.vE (Val.pickT rfl rfl rfl rfl) ?_
      refine TL.vE (Val.move 1 rfl rfl) ?_
      refine TL.gE rfl rfl (Val.move 1 rfl rfl) ?_
      refine TL.gE rfl rfl (Val.move 1 rfl rfl) ?_
      refine TL.gE rfl rfl (by exact Val.cast (Val.eqlB rfl rfl rfl rfl) (congrArg (fun z : Bool => (B z : TS)) (show _ = true by simp))) ?_
      refine TL.vE (Val.pickT rfl rfl rfl rfl) ?_
      refine TL.vE (Val.move 1 rfl rfl) ?_
      refine TL.guardE rfl rfl rfl (by first | exact Val.loadCAgg (n := 6) rfl rfl rfl rfl (Nat.le_of_ble_eq_true rfl) | exact Val.loadAgg (n := 6) rfl rfl rfl rfl (by simp [St.cellsAt, St.cellAt, St.root, valC]; rfl) rfl | exact Val.loadAgg (n := 6) rfl rfl rfl rfl rfl rfl) (by simp only [St.put, List.set_cons_succ, List.set_cons_zero, valC, dAct, rAct, D.row, List.take_succ_cons, List.take_zero, List.map_cons, List.map_nil]; rfl) ?_
      refine TL.guardE rfl rfl rfl (by first | exact Val.loadCAgg (n := 6) rfl rfl rfl rfl (Nat.le_of_ble_eq_true rfl) | exact Val.loadAgg (n := 6) rfl rfl rfl rfl (by simp [St.cellsAt, St.cellAt, St.root, valC]; rfl) rfl | exact Val.loadAgg (n := 6) rfl rfl rfl rfl rfl rfl) (by simp only [St.put, List.set_cons_succ, List.set_cons_zero, valC, dAct, rAct, D.row, List.take_succ_cons, List.take_zero, List.map_cons, List.map_nil]; rfl) ?_
      refine TL.gE rfl rfl (by exact Val.cast (Val.eqlA rfl rfl rfl rfl rfl rfl (by kernel_rfl) (by kernel_rfl) rfl) (congrArg (fun z : Bool => (B z : TS)) (show _ = true by simp [eqVs, eqV]))) ?_
      refine TL.vE (Val.pickT rfl rfl rfl rfl) ?_
      refine TL.vE (Val.move 1 rfl rfl) ?_
      refine TL.gE rfl rfl (Val.move 1 rfl rfl) ?_
      refine TL.gE rfl rfl (Val.move 1 rfl rfl) ?_
      refine TL.gE rfl rfl (by exact Val.cast (Val.eqlB rfl rfl rfl rfl) (congrArg (fun z : Bool => (B z : TS)) (show _ = true by simp))) ?_
      refine TL.vE (Val.pickT rfl rfl rfl rfl) ?_
      refine TL.vE (Val.move 1 rfl rfl) ?_
      refine TL.guardE rfl rfl rfl (by first | exact Val.loadCAgg (n := 2) rfl rfl rfl rfl (Nat.le_of_ble_eq_true rfl) | exact Val.loadAgg (n := 2) rfl rfl rfl rfl (by simp [St.cellsAt, St.cellAt, St.root, valC]; rfl) rfl | exact Val.loadAgg (n := 2) rfl rfl rfl rfl rfl rfl) (by simp only [St.put, List.set_cons_succ, List.set_cons_zero, valC, dIns, rIns, D.row, List.take_succ_cons, List.take_zero, List.map_cons, List.map_nil]; rfl) ?_
      refine TL.guardE rfl rfl rfl (by first | exact Val.loadCAgg (n := 2) rfl rfl rfl rfl (Nat.le_of_ble_eq_true rfl) | exact Val.loadAgg (n := 2) rfl rfl rfl rfl (by simp [St.cellsAt, St.cellAt, St.root, valC]; rfl) rfl | exact Val.loadAgg (n := 2) rfl rfl rfl rfl rfl rfl) (by simp only [St.put, List.set_cons_succ, List.set_cons_zero, valC, dIns, rIns, D.row, List.take_succ_cons, List.take_zero, List.map_cons, List.map_nil]; rfl) ?_
      refine TL.gE rfl rfl (by exact Val.cast (Val.eqlA rfl rfl rfl rfl rfl rfl (by kernel_rfl) (by kernel_rfl) rfl) (congrArg (fun z : Bool => (B z : TS)) (show _ = true by simp [eqVs, eqV]))) ?_
      refine TL.vE (Val.pickT rfl rfl rfl rfl) ?_
      refine TL.vE (Val.move 1 rfl rfl) ?_
      refine TL.gE rfl rfl (Val.move 1 rfl rfl) ?_
      refine TL.cF ((impl_ActName_f x70).k) ?_ (yes_some rfl rfl rfl)
      refine TL.gE rfl rfl (Val.move 1 rfl rfl) ?_
      refine TL.cF ((spec_ActName_f x70).k) ?_ (yes_some rfl rfl rfl)
      refine TL.gE rfl rfl (by exact Val.cast (Val.eqlS rfl rfl rfl) (congrArg (fun z : Bool => (B z : TS)) (show _ = true by simp))) ?_
      refine TL.vE (Val.pickT rfl rfl rfl rfl) ?_
      refine TL.vE (Val.move 1 rfl rfl) ?_
      refine TL.gE rfl rfl (Val.move 1 rfl rfl) ?_
      refine TL.cF ((impl_ActUses_f x70).k) ?_ (yes_some rfl rfl rfl)
      refine TL.gE rfl rfl (Val.move 1 rfl rfl) ?_
      refine TL.cF ((spec_ActUses_f x70).k) ?_ (yes_some rfl rfl rfl)
      refine TL.gE rfl rfl (by exact Val.cast (Val.eqlS rfl rfl rfl) (congrArg (fun z : Bool => (B z : TS)) (show _ = true by simp))) ?_
      refine TL.vE (Val.pickT rfl rfl rfl rfl) ?_
      refine TL.vE (Val.move 1 rfl rfl) ?_
      refine TL.gE rfl rfl (Val.build (parts := [(0, (Go.Operand.const (Go.Value.int Go.IntKind.i64 17)))]) (place := [(0, 1), (1, 1), (2, 1), (3, 1), (4, 1), (5, 1)]) rfl rfl rfl rfl rfl rfl rfl rfl rfl (by simp [fillC]; rfl)) ?_
      refine TL.cF ((impl_ActLine_f ⟨17, 0, 0, 0, 0, 0⟩).k) ?_ (yes_some rfl rfl rfl)
      refine TL.gE rfl rfl (by exact Val.cast (Val.eqlS rfl rfl rfl) (congrArg (fun z : Bool => (B z : TS)) (show _ = true by decide +kernel))) ?_
      refine TL.vE (Val.pickT rfl rfl rfl rfl) ?_
      refine TL.vE (Val.assign 1 rfl rfl) ?_
      refine TL.nil ?_
      show TC _ _ _ _ _ _
      refine TC.ret ?_
      exact ⟨.inr rfl, [_], [_], _, rfl, by decide, rfl, by simp [refV, refC, valC], rfl, rfl⟩
    · refine TL.guardE rfl rfl hg34 (by first | exact Val.loadCAgg (n := 2) rfl rfl rfl rfl (Nat.le_of_ble_eq_true rfl) | exact Val.loadAgg (n := 2) rfl rfl rfl rfl (by simp [St.cellsAt, St.cellAt, St.root, valC]; rfl) rfl | exact Val.loadAgg (n := 2) rfl rfl rfl rfl rfl rfl) (by simp only [St.put, List.set_cons_succ, List.set_cons_zero, valC, dIns, rIns, D.row, List.take_succ_cons, List.take_zero, List.map_cons, List.map_nil]; rfl) ?_
      refine TL.guardE rfl rfl hg34 (by first | exact Val.loadCAgg (n := 2) rfl rfl rfl rfl (Nat.le_of_ble_eq_true rfl) | exact Val.loadAgg (n := 2) rfl rfl rfl rfl (by simp [St.cellsAt, St.cellAt, St.root, valC]; rfl) rfl | exact Val.loadAgg (n := 2) rfl rfl rfl rfl rfl rfl) (by simp only [St.put, List.set_cons_succ, List.set_cons_zero, valC, dIns, rIns, D.row, List.take_succ_cons, List.take_zero, List.map_cons, List.map_nil]; rfl) ?_
      refine TL.gE rfl hg34 (by exact Val.cast (Val.eqlA rfl rfl rfl rfl rfl rfl (by kernel_rfl) (by kernel_rfl) rfl) (congrArg (fun z : Bool => (B z : TS)) (show _ = true by (have hs : oi.isSome = true := (by simpa using hg34); rcases Classical.em (insLine x36 = ⟨#[]⟩) with h | h; exact absurd hs (by rw [← hoi, if_pos h]; simp); rw [← hoi, if_neg h]; simp [eqVs, eqV])))) ?_
      refine TL.gE rfl rfl (Val.pickF rfl rfl hg34 rfl) ?_
      refine TL.vE (Val.pickT rfl rfl rfl rfl) ?_
      refine TL.vE (Val.move 1 rfl rfl) ?_
      refine TL.gE rfl rfl (Val.move 1 rfl rfl) ?_
      refine TL.gE rfl rfl (Val.move 1 rfl rfl) ?_
      refine TL.gE rfl rfl (by exact Val.cast (Val.eqlB rfl rfl rfl rfl) (congrArg (fun z : Bool => (B z : TS)) (show _ = true by simp))) ?_
      refine TL.vE (Val.pickT rfl rfl rfl rfl) ?_
      refine TL.vE (Val.move 1 rfl rfl) ?_
      refine TL.guardE rfl rfl rfl (by first | exact Val.loadCAgg (n := 6) rfl rfl rfl rfl (Nat.le_of_ble_eq_true rfl) | exact Val.loadAgg (n := 6) rfl rfl rfl rfl (by simp [St.cellsAt, St.cellAt, St.root, valC]; rfl) rfl | exact Val.loadAgg (n := 6) rfl rfl rfl rfl rfl rfl) (by simp only [St.put, List.set_cons_succ, List.set_cons_zero, valC, dAct, rAct, D.row, List.take_succ_cons, List.take_zero, List.map_cons, List.map_nil]; rfl) ?_
      refine TL.guardE rfl rfl rfl (by first | exact Val.loadCAgg (n := 6) rfl rfl rfl rfl (Nat.le_of_ble_eq_true rfl) | exact Val.loadAgg (n := 6) rfl rfl rfl rfl (by simp [St.cellsAt, St.cellAt, St.root, valC]; rfl) rfl | exact Val.loadAgg (n := 6) rfl rfl rfl rfl rfl rfl) (by simp only [St.put, List.set_cons_succ, List.set_cons_zero, valC, dAct, rAct, D.row, List.take_succ_cons, List.take_zero, List.map_cons, List.map_nil]; rfl) ?_
      refine TL.gE rfl rfl (by exact Val.cast (Val.eqlA rfl rfl rfl rfl rfl rfl (by kernel_rfl) (by kernel_rfl) rfl) (congrArg (fun z : Bool => (B z : TS)) (show _ = true by simp [eqVs, eqV]))) ?_
      refine TL.vE (Val.pickT rfl rfl rfl rfl) ?_
      refine TL.vE (Val.move 1 rfl rfl) ?_
      refine TL.gE rfl rfl (Val.move 1 rfl rfl) ?_
      refine TL.gE rfl rfl (Val.move 1 rfl rfl) ?_
      refine TL.gE rfl rfl (by exact Val.cast (Val.eqlB rfl rfl rfl rfl) (congrArg (fun z : Bool => (B z : TS)) (show _ = true by simp))) ?_
      refine TL.vE (Val.pickT rfl rfl rfl rfl) ?_
      refine TL.vE (Val.move 1 rfl rfl) ?_
      refine TL.guardE rfl rfl rfl (by first | exact Val.loadCAgg (n := 2) rfl rfl rfl rfl (Nat.le_of_ble_eq_true rfl) | exact Val.loadAgg (n := 2) rfl rfl rfl rfl (by simp [St.cellsAt, St.cellAt, St.root, valC]; rfl) rfl | exact Val.loadAgg (n := 2) rfl rfl rfl rfl rfl rfl) (by simp only [St.put, List.set_cons_succ, List.set_cons_zero, valC, dIns, rIns, D.row, List.take_succ_cons, List.take_zero, List.map_cons, List.map_nil]; rfl) ?_
      refine TL.guardE rfl rfl rfl (by first | exact Val.loadCAgg (n := 2) rfl rfl rfl rfl (Nat.le_of_ble_eq_true rfl) | exact Val.loadAgg (n := 2) rfl rfl rfl rfl (by simp [St.cellsAt, St.cellAt, St.root, valC]; rfl) rfl | exact Val.loadAgg (n := 2) rfl rfl rfl rfl rfl rfl) (by simp only [St.put, List.set_cons_succ, List.set_cons_zero, valC, dIns, rIns, D.row, List.take_succ_cons, List.take_zero, List.map_cons, List.map_nil]; rfl) ?_
      refine TL.gE rfl rfl (by exact Val.cast (Val.eqlA rfl rfl rfl rfl rfl rfl (by kernel_rfl) (by kernel_rfl) rfl) (congrArg (fun z : Bool => (B z : TS)) (show _ = true by simp [eqVs, eqV]))) ?_
      refine TL.vE (Val.pickT rfl rfl rfl rfl) ?_
      refine TL.vE (Val.move 1 rfl rfl) ?_
      refine TL.gE rfl rfl (Val.move 1 rfl rfl) ?_
      refine TL.cF ((impl_ActName_f x70).k) ?_ (yes_some rfl rfl rfl)
      refine TL.gE rfl rfl (Val.move 1 rfl rfl) ?_
      refine TL.cF ((spec_ActName_f x70).k) ?_ (yes_some rfl rfl rfl)
      refine TL.gE rfl rfl (by exact Val.cast (Val.eqlS rfl rfl rfl) (congrArg (fun z : Bool => (B z : TS)) (show _ = true by simp))) ?_
      refine TL.vE (Val.pickT rfl rfl rfl rfl) ?_
      refine TL.vE (Val.move 1 rfl rfl) ?_
      refine TL.gE rfl rfl (Val.move 1 rfl rfl) ?_
      refine TL.cF ((impl_ActUses_f x70).k) ?_ (yes_some rfl rfl rfl)
      refine TL.gE rfl rfl (Val.move 1 rfl rfl) ?_
      refine TL.cF ((spec_ActUses_f x70).k) ?_ (yes_some rfl rfl rfl)
      refine TL.gE rfl rfl (by exact Val.cast (Val.eqlS rfl rfl rfl) (congrArg (fun z : Bool => (B z : TS)) (show _ = true by simp))) ?_
      refine TL.vE (Val.pickT rfl rfl rfl rfl) ?_
      refine TL.vE (Val.move 1 rfl rfl) ?_
      refine TL.gE rfl rfl (Val.build (parts := [(0, (Go.Operand.const (Go.Value.int Go.IntKind.i64 17)))]) (place := [(0, 1), (1, 1), (2, 1), (3, 1), (4, 1), (5, 1)]) rfl rfl rfl rfl rfl rfl rfl rfl rfl (by simp [fillC]; rfl)) ?_
      refine TL.cF ((impl_ActLine_f ⟨17, 0, 0, 0, 0, 0⟩).k) ?_ (yes_some rfl rfl rfl)
      refine TL.gE rfl rfl (by exact Val.cast (Val.eqlS rfl rfl rfl) (congrArg (fun z : Bool => (B z : TS)) (show _ = true by decide +kernel))) ?_
      refine TL.vE (Val.pickT rfl rfl rfl rfl) ?_
      refine TL.vE (Val.assign 1 rfl rfl) ?_
      refine TL.nil ?_
      show TC _ _ _ _ _ _
      refine TC.ret ?_
      exact ⟨.inr rfl, [_], [_], _, rfl, by decide, rfl, by simp [refV, refC, valC], rfl, rfl⟩
end Go.Proofs.YtdlpmcjpbcbbjaaDoor.T

