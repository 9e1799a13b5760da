/- FnShortScript's own walk. PRINTED by gen.py out of spec_script4.py. -/
import Derived.Test.YtfiakjbnfaaamaaDoorT3
import Derived.Test.YtfiakjbnfaaamaaDoorYc
import Derived.Test.YtfiakjbnfaaamaaDoorYd
import Derived.Test.YtfiakjbnfaaamaaDoorXg
import Derived.Test.YtfiakjbnfaaamaaDoorWb
namespace Go.Proofs.YtfiakjbnfaaamaaDoor.T
open Go
set_option linter.unusedVariables false
set_option linter.unusedSimpArgs false
set_option maxRecDepth 100000
set_option maxHeartbeats 1000000

theorem Val.cast {P : Program} {w0 : World} {g0 : Gh} {st : St} {o : Oper} {t t' : TS} (h : Val P w0 g0 o st t) (e : t = t') : Val P w0 g0 o st t' := e ▸ h
-- loop.example/g00975/laws.FnShortScript: params ['[]uint8'] results ['bool'] ('arr', [('app', 'Go.ResultVar.tmp', ['2'])])
theorem laws_FnShortScript_f (ds : List D) (hby : isBytes ds) : FunW (TabS) Tryd.prog 3 [L 1 ds] (RV (.bool true)) := by
  refine FunW.of (TabS.keep) Tryd.func3 rfl (by simp [Tryd.ntmps3]) fun w g0 hW => ?_
  simp only [Tryd.ntmps3, List.length_cons, List.length_nil, Nat.reduceAdd, Nat.reduceSub, List.replicate, List.cons_append, List.nil_append]
  have hWE : ∀ w', Kept w g0 w' → TabE w' := fun w' h => (hW w' h).1
  have hWT : ∀ w', Kept w g0 w' → Tab w' := fun w' h => (hW w' h).1.1
  refine TC.seq ?_
  -- region 0
  refine TC.region ?_
  refine TL.vE (Val.assign 1 rfl rfl) ?_
  refine TL.nil ?_
  show TC _ _ _ _ _ _
  refine TC.seq ?_
  refine TC.seq ?_
  -- region 1
  refine TC.region ?_
  refine TL.vE (Val.move 1 rfl rfl) ?_
  refine TL.callF (yes_none rfl) rfl rfl rfl rfl rfl rfl ((laws_big_f ds).k) (by repeat first | exact .nil | refine Snaps.cons (.ro _) ?_ | refine Snaps.cons (.aggRo rfl) ?_ | refine Snaps.cons (.cptr _) ?_ | refine Snaps.cons (.fn _) ?_ | refine Snaps.cons (.ownRef rfl (by first | assumption | exact w_InsS _ | exact w_InsSS _ | exact w_InsSSS _ | exact w_ActS _ | exact whole_map _ _ (fun w c hc => by simp only [D.row, List.mem_cons, List.not_mem_nil, or_false] at hc; subst hc; exact .v _))) ?_ | refine Snaps.cons (.aggR (by repeat first | exact .nil | refine SnapCs.cons (.ro _) ?_ | refine SnapCs.cons (.ref rfl (by first | assumption | exact w_InsS _ | exact w_InsSS _ | exact w_InsSSS _ | exact w_ActS _ | exact whole_map _ _ (fun w c hc => by simp only [D.row, List.mem_cons, List.not_mem_nil, or_false] at hc; subst hc; exact .v _))) ?_)) ?_) rfl (by simp only [nput]; rfl) ?_
  refine TL.nil ?_
  show TC _ _ _ _ _ _
  refine TC.cond rfl (fun hb => ?_) (fun hb => ?_)
  · have hk16 := hb
    refine TC.seq ?_
    -- region 2
    refine TC.region ?_
    refine TL.vE (Val.assign 1 rfl rfl) ?_
    refine TL.nil ?_
    show TC _ _ _ _ _ _
    refine TC.ret ?_
    exact ⟨.inr rfl, [_], [_], _, rfl, by decide, rfl, by simp [refV, refC, valC, C.kill, hitR], rfl, rfl⟩
  have hk16 := hb
  refine TC.skip ?_
  show TC _ _ _ _ _ _
  refine TC.seq ?_
  have hn : ds.length ≤ 1048576 := by simp at hb; omega
  -- region 3
  refine TC.region ?_
  refine TL.vE (Val.move 1 rfl rfl) ?_
  refine TL.opK rfl fun K hK => ?_
  refine OpT.call rfl rfl rfl rfl rfl rfl (by repeat first | exact .nil | refine Snaps.cons (.ro _) ?_) ((spec_DrawPlaces_f ds hby hn).k) (fun r hr => hr.ok) (fun r hr => ?_)
  obtain ⟨p, hp1, hp2, rfl⟩ := hr
  obtain ⟨pa, pr, rfl⟩ : ∃ pa pr, p = pa :: pr := by rcases p with _ | ⟨pa, pr⟩ <;> simp at hp1 <;> exact ⟨_, _, rfl⟩
  simp only [St.called]
  simp only [nrm, Nat.reduceBEq, Nat.reduceBNe, reduceIte]
  refine hK _ ?_
  clear hK K
  refine TL.vE (Val.assign 1 rfl rfl) ?_
  refine TL.nil ?_
  show TC _ _ _ _ _ _
  refine TC.seq ?_
  have ha := hp2 pa (by simp)
  have hna : (pa.tmod 100) = pa % 100 := Int.tmod_eq_emod_of_nonneg ha.1
  have hsr := short_read (pa.tmod 100) (by omega) (by omega)
  have hsz := hsr.2.2
  have hr1 := impl_ReadScript_f (shortT (pa.tmod 100))
  have hr5 := impl_ReadScript_f (shortT (pa.tmod 100) ++ ⟨#[99, 111, 108, 100, 10, 103, 117, 101, 115, 116, 10]⟩)
  rw [hsr.1] at hr1
  rw [hsr.2.1] at hr5
  unfold shortT at hr1 hr5 hsz
  have hra := impl_ReadScript_f ⟨#[109, 111, 110, 105, 116, 111, 114, 10]⟩
  rw [read_a] at hra
  have hrb := impl_ReadScript_f ⟨#[109, 111, 110, 105, 116, 111, 114, 10, 103, 117, 101, 115, 116, 10]⟩
  rw [read_b] at hrb
  have hrc := impl_ReadScript_f ⟨#[103, 117, 101, 115, 116, 10]⟩
  rw [read_c] at hrc
  have hds := dec_size (n := (pa.tmod 100)) (by omega) (by omega)
  -- region 4
  refine TC.region ?_
  refine TL.vE (Val.move 1 rfl rfl) ?_
  refine TL.vE (by exact Val.index rfl rfl rfl rfl rfl rfl (by omega) (by simp)) ?_
  refine TL.valE rfl (by first | exact Val.load rfl rfl rfl rfl rfl | exact Val.loadC rfl rfl rfl) (by simp only [nput, valC]; rfl) ?_
  refine TL.vE (by exact Val.rem rfl rfl rfl (by decide)) ?_
  refine TL.callF (yes_none rfl) rfl rfl rfl rfl rfl rfl ((impl_Decimal_f (pa.tmod 100) ⟨by omega, by omega⟩).k) (by repeat first | exact .nil | refine Snaps.cons (.ro _) ?_ | refine Snaps.cons (.aggRo rfl) ?_ | refine Snaps.cons (.cptr _) ?_ | refine Snaps.cons (.fn _) ?_ | refine Snaps.cons (.ownRef rfl (by first | assumption | exact w_InsS _ | exact w_InsSS _ | exact w_InsSSS _ | exact w_ActS _ | exact whole_map _ _ (fun w c hc => by simp only [D.row, List.mem_cons, List.not_mem_nil, or_false] at hc; subst hc; exact .v _))) ?_ | refine Snaps.cons (.aggR (by repeat first | exact .nil | refine SnapCs.cons (.ro _) ?_ | refine SnapCs.cons (.ref rfl (by first | assumption | exact w_InsS _ | exact w_InsSS _ | exact w_InsSSS _ | exact w_ActS _ | exact whole_map _ _ (fun w c hc => by simp only [D.row, List.mem_cons, List.not_mem_nil, or_false] at hc; subst hc; exact .v _))) ?_)) ?_) rfl (by simp only [nput]; rfl) ?_
  refine TL.vE (by exact Val.addS rfl rfl rfl (by rw [show (⟨#[109, 111, 110, 105, 116, 111, 114, 10, 103, 117, 101, 115, 116, 10, 115, 101, 116, 32]⟩ : ByteArray).size = 18 from rfl]; omega)) ?_
  refine TL.vE (by exact Val.addS rfl rfl rfl (by have h := hsz; rw [ByteArray.size_append] at h; omega)) ?_
  refine TL.vE (Val.assign 1 rfl rfl) ?_
  refine TL.nil ?_
  show TC _ _ _ _ _ _
  refine TC.seq ?_
  -- region 5
  refine TC.region ?_
  refine TL.vE (Val.move 1 rfl rfl) ?_
  refine TL.opK rfl fun K hK => ?_
  refine OpT.callG rfl rfl rfl rfl rfl rfl ((hr1).k) (by repeat first | exact .nil | refine Snaps.cons (.ro _) ?_ | refine Snaps.cons (.aggRo rfl) ?_ | refine Snaps.cons (.cptr _) ?_ | refine Snaps.cons (.fn _) ?_ | refine Snaps.cons (.ownRef rfl (by first | assumption | exact w_InsS _ | exact w_InsSS _ | exact w_InsSSS _ | exact w_ActS _ | exact whole_map _ _ (fun w c hc => by simp only [D.row, List.mem_cons, List.not_mem_nil, or_false] at hc; subst hc; exact .v _))) ?_ | refine Snaps.cons (.aggR (by repeat first | exact .nil | refine SnapCs.cons (.ro _) ?_ | refine SnapCs.cons (.ref rfl (by first | assumption | exact w_InsS _ | exact w_InsSS _ | exact w_InsSSS _ | exact w_ActS _ | exact whole_map _ _ (fun w c hc => by simp only [D.row, List.mem_cons, List.not_mem_nil, or_false] at hc; subst hc; exact .v _))) ?_)) ?_) rfl ?_ -- 28
  simp only [nrm, Nat.reduceBEq, Nat.reduceBNe, reduceIte]
  refine hK _ ?_
  clear hK K
  refine TL.vE (Val.move 1 rfl rfl) ?_
  refine TL.vE (Val.extract rfl rfl rfl) ?_
  refine TL.vE (Val.extract rfl rfl rfl) ?_
  refine TL.opK rfl fun K hK => ?_
  refine OpT.alloc rfl rfl rfl rfl rfl rfl ?_ -- 5
  simp only [nrm, Nat.reduceBEq, Nat.reduceBNe, reduceIte]
  refine hK _ ?_
  clear hK K
  refine TL.opK rfl fun K hK => ?_
  refine OpT.storeAgg rfl rfl rfl rfl rfl rfl (by simp [St.store1, St.storeAll, St.cellAt, St.isMem, St.root, St.wrote, St.kill, St.setRoot, TS.kill, TV.kill, C.kill, Rt.kill, hitR, hitP, shapeOf, setRow, setAt, rowAt, D.row, D.reRow, List.isPrefixOf]; rfl) ?_ -- None
  simp only [nrm, Nat.reduceBEq, Nat.reduceBNe, reduceIte]
  refine hK _ ?_
  clear hK K
  refine TL.vE (Val.assign 1 rfl rfl) ?_
  refine TL.nil ?_
  show TC _ _ _ _ _ _
  refine TC.seq ?_
  -- region 6
  refine TC.region ?_
  refine TL.opK rfl fun K hK => ?_
  refine OpT.callG rfl rfl rfl rfl rfl rfl ((hra).k) (by repeat first | exact .nil | refine Snaps.cons (.ro _) ?_ | refine Snaps.cons (.aggRo rfl) ?_ | refine Snaps.cons (.cptr _) ?_ | refine Snaps.cons (.fn _) ?_ | refine Snaps.cons (.ownRef rfl (by first | assumption | exact w_InsS _ | exact w_InsSS _ | exact w_InsSSS _ | exact w_ActS _ | exact whole_map _ _ (fun w c hc => by simp only [D.row, List.mem_cons, List.not_mem_nil, or_false] at hc; subst hc; exact .v _))) ?_ | refine Snaps.cons (.aggR (by repeat first | exact .nil | refine SnapCs.cons (.ro _) ?_ | refine SnapCs.cons (.ref rfl (by first | assumption | exact w_InsS _ | exact w_InsSS _ | exact w_InsSSS _ | exact w_ActS _ | exact whole_map _ _ (fun w c hc => by simp only [D.row, List.mem_cons, List.not_mem_nil, or_false] at hc; subst hc; exact .v _))) ?_)) ?_) rfl ?_ -- 32
  simp only [nrm, Nat.reduceBEq, Nat.reduceBNe, reduceIte]
  refine hK _ ?_
  clear hK K
  refine TL.vE (Val.move 1 rfl rfl) ?_
  refine TL.vE (Val.extract rfl rfl rfl) ?_
  refine TL.vE (Val.extract rfl rfl rfl) ?_
  refine TL.opK rfl fun K hK => ?_
  refine OpT.alloc rfl rfl rfl rfl rfl rfl ?_ -- 7
  simp only [nrm, Nat.reduceBEq, Nat.reduceBNe, reduceIte]
  refine hK _ ?_
  clear hK K
  refine TL.opK rfl fun K hK => ?_
  refine OpT.storeAgg rfl rfl rfl rfl rfl rfl (by simp [St.store1, St.storeAll, St.cellAt, St.isMem, St.root, St.wrote, St.kill, St.setRoot, TS.kill, TV.kill, C.kill, Rt.kill, hitR, hitP, shapeOf, setRow, setAt, rowAt, D.row, D.reRow, List.isPrefixOf]; rfl) ?_ -- None
  simp only [nrm, Nat.reduceBEq, Nat.reduceBNe, reduceIte]
  refine hK _ ?_
  clear hK K
  refine TL.vE (Val.assign 1 rfl rfl) ?_
  refine TL.nil ?_
  show TC _ _ _ _ _ _
  refine TC.seq ?_
  -- region 7
  refine TC.region ?_
  refine TL.opK rfl fun K hK => ?_
  refine OpT.callG rfl rfl rfl rfl rfl rfl ((hrb).k) (by repeat first | exact .nil | refine Snaps.cons (.ro _) ?_ | refine Snaps.cons (.aggRo rfl) ?_ | refine Snaps.cons (.cptr _) ?_ | refine Snaps.cons (.fn _) ?_ | refine Snaps.cons (.ownRef rfl (by first | assumption | exact w_InsS _ | exact w_InsSS _ | exact w_InsSSS _ | exact w_ActS _ | exact whole_map _ _ (fun w c hc => by simp only [D.row, List.mem_cons, List.not_mem_nil, or_false] at hc; subst hc; exact .v _))) ?_ | refine Snaps.cons (.aggR (by repeat first | exact .nil | refine SnapCs.cons (.ro _) ?_ | refine SnapCs.cons (.ref rfl (by first | assumption | exact w_InsS _ | exact w_InsSS _ | exact w_InsSSS _ | exact w_ActS _ | exact whole_map _ _ (fun w c hc => by simp only [D.row, List.mem_cons, List.not_mem_nil, or_false] at hc; subst hc; exact .v _))) ?_)) ?_) rfl ?_ -- 36
  simp only [nrm, Nat.reduceBEq, Nat.reduceBNe, reduceIte]
  refine hK _ ?_
  clear hK K
  refine TL.vE (Val.move 1 rfl rfl) ?_
  refine TL.vE (Val.extract rfl rfl rfl) ?_
  refine TL.vE (Val.extract rfl rfl rfl) ?_
  refine TL.opK rfl fun K hK => ?_
  refine OpT.alloc rfl rfl rfl rfl rfl rfl ?_ -- 9
  simp only [nrm, Nat.reduceBEq, Nat.reduceBNe, reduceIte]
  refine hK _ ?_
  clear hK K
  refine TL.opK rfl fun K hK => ?_
  refine OpT.storeAgg rfl rfl rfl rfl rfl rfl (by simp [St.store1, St.storeAll, St.cellAt, St.isMem, St.root, St.wrote, St.kill, St.setRoot, TS.kill, TV.kill, C.kill, Rt.kill, hitR, hitP, shapeOf, setRow, setAt, rowAt, D.row, D.reRow, List.isPrefixOf]; rfl) ?_ -- None
  simp only [nrm, Nat.reduceBEq, Nat.reduceBNe, reduceIte]
  refine hK _ ?_
  clear hK K
  refine TL.vE (Val.assign 1 rfl rfl) ?_
  refine TL.nil ?_
  show TC _ _ _ _ _ _
  refine TC.seq ?_
  -- region 8
  refine TC.region ?_
  refine TL.opK rfl fun K hK => ?_
  refine OpT.callG rfl rfl rfl rfl rfl rfl ((hrc).k) (by repeat first | exact .nil | refine Snaps.cons (.ro _) ?_ | refine Snaps.cons (.aggRo rfl) ?_ | refine Snaps.cons (.cptr _) ?_ | refine Snaps.cons (.fn _) ?_ | refine Snaps.cons (.ownRef rfl (by first | assumption | exact w_InsS _ | exact w_InsSS _ | exact w_InsSSS _ | exact w_ActS _ | exact whole_map _ _ (fun w c hc => by simp only [D.row, List.mem_cons, List.not_mem_nil, or_false] at hc; subst hc; exact .v _))) ?_ | refine Snaps.cons (.aggR (by repeat first | exact .nil | refine SnapCs.cons (.ro _) ?_ | refine SnapCs.cons (.ref rfl (by first | assumption | exact w_InsS _ | exact w_InsSS _ | exact w_InsSSS _ | exact w_ActS _ | exact whole_map _ _ (fun w c hc => by simp only [D.row, List.mem_cons, List.not_mem_nil, or_false] at hc; subst hc; exact .v _))) ?_)) ?_) rfl ?_ -- 40
  simp only [nrm, Nat.reduceBEq, Nat.reduceBNe, reduceIte]
  refine hK _ ?_
  clear hK K
  refine TL.vE (Val.move 1 rfl rfl) ?_
  refine TL.vE (Val.extract rfl rfl rfl) ?_
  refine TL.vE (Val.extract rfl rfl rfl) ?_
  refine TL.opK rfl fun K hK => ?_
  refine OpT.alloc rfl rfl rfl rfl rfl rfl ?_ -- 11
  simp only [nrm, Nat.reduceBEq, Nat.reduceBNe, reduceIte]
  refine hK _ ?_
  clear hK K
  refine TL.opK rfl fun K hK => ?_
  refine OpT.storeAgg rfl rfl rfl rfl rfl rfl (by simp [St.store1, St.storeAll, St.cellAt, St.isMem, St.root, St.wrote, St.kill, St.setRoot, TS.kill, TV.kill, C.kill, Rt.kill, hitR, hitP, shapeOf, setRow, setAt, rowAt, D.row, D.reRow, List.isPrefixOf]; rfl) ?_ -- None
  simp only [nrm, Nat.reduceBEq, Nat.reduceBNe, reduceIte]
  refine hK _ ?_
  clear hK K
  refine TL.vE (Val.assign 1 rfl rfl) ?_
  refine TL.nil ?_
  show TC _ _ _ _ _ _
  refine TC.seq ?_
  -- region 9
  refine TC.region ?_
  refine TL.vE (Val.move 1 rfl rfl) ?_
  refine TL.vE (by exact Val.addS rfl rfl rfl (by rw [show (⟨#[99, 111, 108, 100, 10, 103, 117, 101, 115, 116, 10]⟩ : ByteArray).size = 11 from rfl]; omega)) ?_
  refine TL.opK rfl fun K hK => ?_
  refine OpT.callG rfl rfl rfl rfl rfl rfl ((hr5).k) (by repeat first | exact .nil | refine Snaps.cons (.ro _) ?_ | refine Snaps.cons (.aggRo rfl) ?_ | refine Snaps.cons (.cptr _) ?_ | refine Snaps.cons (.fn _) ?_ | refine Snaps.cons (.ownRef rfl (by first | assumption | exact w_InsS _ | exact w_InsSS _ | exact w_InsSSS _ | exact w_ActS _ | exact whole_map _ _ (fun w c hc => by simp only [D.row, List.mem_cons, List.not_mem_nil, or_false] at hc; subst hc; exact .v _))) ?_ | refine Snaps.cons (.aggR (by repeat first | exact .nil | refine SnapCs.cons (.ro _) ?_ | refine SnapCs.cons (.ref rfl (by first | assumption | exact w_InsS _ | exact w_InsSS _ | exact w_InsSSS _ | exact w_ActS _ | exact whole_map _ _ (fun w c hc => by simp only [D.row, List.mem_cons, List.not_mem_nil, or_false] at hc; subst hc; exact .v _))) ?_)) ?_) rfl ?_ -- 46
  simp only [nrm, Nat.reduceBEq, Nat.reduceBNe, reduceIte]
  refine hK _ ?_
  clear hK K
  refine TL.vE (Val.move 1 rfl rfl) ?_
  refine TL.vE (Val.extract rfl rfl rfl) ?_
  refine TL.vE (Val.extract rfl rfl rfl) ?_
  refine TL.opK rfl fun K hK => ?_
  refine OpT.alloc rfl rfl rfl rfl rfl rfl ?_ -- 13
  simp only [nrm, Nat.reduceBEq, Nat.reduceBNe, reduceIte]
  refine hK _ ?_
  clear hK K
  refine TL.opK rfl fun K hK => ?_
  refine OpT.storeAgg rfl rfl rfl rfl rfl rfl (by simp [St.store1, St.storeAll, St.cellAt, St.isMem, St.root, St.wrote, St.kill, St.setRoot, TS.kill, TV.kill, C.kill, Rt.kill, hitR, hitP, shapeOf, setRow, setAt, rowAt, D.row, D.reRow, List.isPrefixOf]; rfl) ?_ -- None
  simp only [nrm, Nat.reduceBEq, Nat.reduceBNe, reduceIte]
  refine hK _ ?_
  clear hK K
  refine TL.vE (Val.assign 1 rfl rfl) ?_
  refine TL.nil ?_
  show TC _ _ _ _ _ _
  refine TC.seq ?_
  -- region 10
  refine TC.regionQ rfl (by decide +kernel) ?_
  refine TQ.vE (Val.move 1 rfl rfl) ?_
  refine TQ.vE (by exact Val.cast (Val.eql rfl rfl rfl) (congrArg (fun z : Bool => (B z : TS)) (show _ = true by decide))) ?_
  refine TQ.vE (Val.move 1 rfl rfl) ?_
  refine TQ.guardE rfl rfl rfl (by first | exact Val.field rfl rfl rfl | exact Val.fieldC rfl rfl rfl) (by simp only [St.put, List.set_cons_succ, List.set_cons_zero, List.getElem_toArray, List.getElem_cons_succ, List.getElem_cons_zero, Nat.zero_add, Nat.reduceAdd]; rfl) ?_
  refine TQ.guardE rfl rfl rfl (by first | exact Val.load rfl rfl rfl rfl rfl | exact Val.loadC rfl rfl rfl) (by simp only [nput, valC]; rfl) ?_
  refine TQ.guardE rfl rfl rfl (by first | exact Val.len rfl rfl rfl rfl | exact Val.lenS rfl rfl rfl) (by simp only [nput]; rfl) ?_
  refine TQ.guardE rfl rfl rfl (by exact Val.cast (Val.eql rfl rfl rfl) (congrArg (fun z : Bool => (B z : TS)) (show _ = true by simp))) (by simp only [nput]; rfl) ?_
  refine TQ.vE (Val.pickT rfl rfl rfl rfl) ?_
  refine TQ.vE (Val.move 1 rfl rfl) ?_
  refine TQ.guardE rfl rfl rfl (by first | exact Val.field rfl rfl rfl | exact Val.fieldC rfl rfl rfl) (by simp only [St.put, List.set_cons_succ, List.set_cons_zero, List.getElem_toArray, List.getElem_cons_succ, List.getElem_cons_zero, Nat.zero_add, Nat.reduceAdd]; rfl) ?_
  refine TQ.guardE rfl rfl rfl (by first | exact Val.load rfl rfl rfl rfl rfl | exact Val.loadC rfl rfl rfl) (by simp only [nput, valC]; rfl) ?_
  refine TQ.guardE rfl rfl rfl (by exact Val.index rfl rfl rfl rfl rfl rfl (by omega) (by simp)) (by simp only [nput]; rfl) ?_
  refine TQ.guardE rfl rfl rfl (by exact Val.load rfl rfl rfl rfl rfl) (by simp only [nput, valC]; rfl) ?_
  refine TQ.guardE rfl rfl rfl (by first | exact Val.len rfl rfl rfl rfl | exact Val.lenS rfl rfl rfl) (by simp only [nput]; rfl) ?_
  refine TQ.guardE rfl rfl rfl (by exact Val.cast (Val.eql rfl rfl rfl) (congrArg (fun z : Bool => (B z : TS)) (show _ = true by simp))) (by simp only [nput]; rfl) ?_
  refine TQ.vE (Val.pickT rfl rfl rfl rfl) ?_
  refine TQ.vE (Val.move 1 rfl rfl) ?_
  refine TQ.guardE rfl rfl rfl (by first | exact Val.field rfl rfl rfl | exact Val.fieldC rfl rfl rfl) (by simp only [St.put, List.set_cons_succ, List.set_cons_zero, List.getElem_toArray, List.getElem_cons_succ, List.getElem_cons_zero, Nat.zero_add, Nat.reduceAdd]; rfl) ?_
  refine TQ.guardE rfl rfl rfl (by first | exact Val.load rfl rfl rfl rfl rfl | exact Val.loadC rfl rfl rfl) (by simp only [nput, valC]; rfl) ?_
  refine TQ.guardE rfl rfl rfl (by exact Val.index rfl rfl rfl rfl rfl rfl (by omega) (by simp)) (by simp only [nput]; rfl) ?_
  refine TQ.guardE rfl rfl rfl (by exact Val.load rfl rfl rfl rfl rfl) (by simp only [nput, valC]; rfl) ?_
  refine TQ.guardE rfl rfl rfl (by exact Val.index rfl rfl rfl rfl rfl rfl (by omega) (by simp)) (by simp only [nput]; rfl) ?_
  refine TQ.guardE rfl rfl rfl (by exact Val.load rfl rfl rfl rfl rfl) (by simp only [nput, valC]; rfl) ?_
  refine TQ.guardE rfl rfl rfl (by first | exact Val.len rfl rfl rfl rfl | exact Val.lenS rfl rfl rfl) (by simp only [nput]; rfl) ?_
  refine TQ.guardE rfl rfl rfl (by exact Val.cast (Val.eql rfl rfl rfl) (congrArg (fun z : Bool => (B z : TS)) (show _ = true by simp))) (by simp only [nput]; rfl) ?_
  refine TQ.vE (Val.pickT rfl rfl rfl rfl) ?_
  refine TQ.vE (Val.move 1 rfl rfl) ?_
  refine TQ.guardE rfl rfl rfl (by first | exact Val.field rfl rfl rfl | exact Val.fieldC rfl rfl rfl) (by simp only [St.put, List.set_cons_succ, List.set_cons_zero, List.getElem_toArray, List.getElem_cons_succ, List.getElem_cons_zero, Nat.zero_add, Nat.reduceAdd]; rfl) ?_
  refine TQ.guardE rfl rfl rfl (by first | exact Val.load rfl rfl rfl rfl rfl | exact Val.loadC rfl rfl rfl) (by simp only [nput, valC]; rfl) ?_
  refine TQ.guardE rfl rfl rfl (by exact Val.index rfl rfl rfl rfl rfl rfl (by omega) (by simp)) (by simp only [nput]; rfl) ?_
  refine TQ.guardE rfl rfl rfl (by exact Val.load rfl rfl rfl rfl rfl) (by simp only [nput, valC]; rfl) ?_
  refine TQ.guardE rfl rfl rfl (by exact Val.index rfl rfl rfl rfl rfl rfl (by omega) (by simp)) (by simp only [nput]; rfl) ?_
  refine TQ.guardE rfl rfl rfl (by exact Val.load rfl rfl rfl rfl rfl) (by simp only [nput, valC]; rfl) ?_
  refine TQ.guardE rfl rfl rfl (by exact Val.index rfl rfl rfl rfl rfl rfl (by omega) (by simp)) (by simp only [nput]; rfl) ?_
  refine TQ.guardE rfl rfl rfl (by first | exact Val.field rfl rfl rfl | exact Val.fieldC rfl rfl rfl) (by simp only [St.put, List.set_cons_succ, List.set_cons_zero, List.getElem_toArray, List.getElem_cons_succ, List.getElem_cons_zero, Nat.zero_add, Nat.reduceAdd]; rfl) ?_
  refine TQ.guardE rfl rfl rfl (by exact Val.load rfl rfl rfl rfl rfl) (by simp only [nput, valC]; rfl) ?_
  refine TQ.guardE rfl rfl rfl (Val.move 1 rfl rfl) (by simp only [nput]; rfl) ?_
  refine TQ.guardE rfl rfl rfl (by exact Val.index rfl rfl rfl rfl rfl rfl (by omega) (by simp)) (by simp only [nput]; rfl) ?_
  refine TQ.guardE rfl rfl rfl (by first | exact Val.load rfl rfl rfl rfl rfl | exact Val.loadC rfl rfl rfl) (by simp only [nput, valC]; rfl) ?_
  refine TQ.guardE rfl rfl rfl (by exact Val.rem rfl rfl rfl (by decide)) (by simp only [nput]; rfl) ?_
  refine TQ.guardE rfl rfl rfl (by exact Val.cast (Val.eql rfl rfl rfl) (congrArg (fun z : Bool => (B z : TS)) (show _ = true by simp))) (by simp only [nput]; rfl) ?_
  refine TQ.vE (Val.pickT rfl rfl rfl rfl) ?_
  refine TQ.vE (Val.move 1 rfl rfl) ?_
  refine TQ.guardE rfl rfl rfl (Val.move 1 rfl rfl) (by simp only [nput]; rfl) ?_
  refine TQ.guardE rfl rfl rfl (by exact Val.cast (Val.eql rfl rfl rfl) (congrArg (fun z : Bool => (B z : TS)) (show _ = true by decide))) (by simp only [nput]; rfl) ?_
  refine TQ.vE (Val.pickT rfl rfl rfl rfl) ?_
  refine TQ.vE (Val.move 1 rfl rfl) ?_
  refine TQ.guardE rfl rfl rfl (Val.move 1 rfl rfl) (by simp only [nput]; rfl) ?_
  refine TQ.guardE rfl rfl rfl (by exact Val.cast (Val.eql rfl rfl rfl) (congrArg (fun z : Bool => (B z : TS)) (show _ = true by decide))) (by simp only [nput]; rfl) ?_
  refine TQ.vE (Val.pickT rfl rfl rfl rfl) ?_
  refine TQ.vE (Val.move 1 rfl rfl) ?_
  refine TQ.guardE rfl rfl rfl (Val.move 1 rfl rfl) (by simp only [nput]; rfl) ?_
  refine TQ.guardE rfl rfl rfl (by exact Val.cast (Val.eql rfl rfl rfl) (congrArg (fun z : Bool => (B z : TS)) (show _ = true by decide))) (by simp only [nput]; rfl) ?_
  refine TQ.vE (Val.pickT rfl rfl rfl rfl) ?_
  refine TQ.vE (Val.move 1 rfl rfl) ?_
  refine TQ.guardE rfl rfl rfl (Val.move 1 rfl rfl) (by simp only [nput]; rfl) ?_
  refine TQ.guardE rfl rfl rfl (by exact Val.cast (Val.eql rfl rfl rfl) (congrArg (fun z : Bool => (B z : TS)) (show _ = true by decide))) (by simp only [nput]; rfl) ?_
  refine TQ.vE (Val.pickT rfl rfl rfl rfl) ?_
  refine TQ.vE (Val.assign 1 rfl rfl) ?_
  refine TQ.nil ?_
  show TC _ _ _ _ _ _
  refine TC.ret ?_
  exact ⟨.inr rfl, [_], [_], _, rfl, by decide, rfl, by simp [refV, refC, valC, C.kill, hitR], rfl, rfl⟩
end Go.Proofs.YtfiakjbnfaaamaaDoor.T

