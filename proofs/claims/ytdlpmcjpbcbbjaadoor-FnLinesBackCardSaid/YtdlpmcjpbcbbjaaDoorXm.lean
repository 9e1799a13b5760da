/- The functions that draw actions, instructions and their lines. PRINTED by gen.py out of spec_draw.py. -/
import Derived.Test.YtdlpmcjpbcbbjaaDoorT3
import Derived.Test.YtdlpmcjpbcbbjaaDoorXl
import Derived.Test.YtdlpmcjpbcbbjaaDoorXn
import Derived.Test.YtdlpmcjpbcbbjaaDoorWi
namespace Go.Proofs.YtdlpmcjpbcbbjaaDoor.T
open Go
set_option linter.unusedVariables false
set_option linter.unusedSimpArgs false
set_option maxRecDepth 100000
set_option maxHeartbeats 1000000

-- loop.example/g00975/spec.l37Act: params ['*spec.l01Cur'] results ['impl.Act = loop.example/g00975/impl.Act'] ('arr', [('app', 'Go.ResultVar.cell', ['2', '27'])])
theorem spec_l37Act_c {ds : List D} (hby : isBytes ds) (hn : ds.length ≤ 1048576)  : FunC Tryd.prog 78 ds [.one (.ptr ⟨pinB, [], 0⟩)] (RDr (fun x : VAct => A (rAct x)) (fun _ => True)) := by
  refine FunC.of Tryd.func78 rfl (by simp [Tryd.ntmps78]) fun w g0 ci0 ch0 hci0 => ?_
  simp only [Tryd.ntmps78, List.length_cons, List.length_nil, Nat.reduceAdd, Nat.reduceSub, List.replicate, List.cons_append, List.nil_append, stC, cur3, refP, pinB, pinK]
  refine TC.seq ?_
  -- region 0
  refine TC.region ?_
  refine TL.opK rfl fun K hK => ?_
  refine OpT.alloc rfl rfl rfl rfl rfl rfl ?_ -- 2
  simp only [nrm, Nat.reduceBEq, Nat.reduceBNe, reduceIte]
  refine hK _ ?_
  clear hK K
  refine TL.nil ?_
  show TC _ _ _ _ _ _
  refine TC.seq ?_
  -- region 1
  refine TC.region ?_
  refine TL.vE (Val.move 1 rfl rfl) ?_
  refine TL.drawP (yes_none rfl) rfl rfl rfl rfl rfl (K := 1000001) rfl (by first | exact .inl rfl | exact .inr ⟨rfl, by decide, rfl⟩) (by first | assumption | omega) (by repeat first | exact .nil | refine SnapsD.cons .cur ?_ | refine SnapsD.cons (.ro _) ?_ | refine SnapsD.cons (.aggRo _) ?_ | refine SnapsD.cons (.ref _ _ rfl (by first | assumption | exact whole_map _ _ (fun w c hc => by simp only [D.row, List.mem_cons, List.not_mem_nil, or_false] at hc; subst hc; exact .v _)) (by decide)) ?_) (spec_l28Any_c hby hn) (fun x => ⟨_, rfl⟩) (fun x i' h' => by simp only [St.curC, cur3, refP, pinK, pinB]; simp only [nrm, Nat.reduceBEq, Nat.reduceBNe, reduceIte]; rfl) fun x8 ci8 ch8 hp8 hci8 => ?_
  refine TL.opK rfl fun K hK => ?_
  refine OpT.alloc rfl rfl rfl rfl rfl rfl ?_ -- 3
  simp only [nrm, Nat.reduceBEq, Nat.reduceBNe, reduceIte]
  refine hK _ ?_
  clear hK K
  refine TL.opK rfl fun K hK => ?_
  refine OpT.storeAgg rfl rfl rfl rfl rfl rfl (by simp [St.store1, St.storeAll, St.cellAt, St.isMem, St.root, St.wrote, St.kill, St.setRoot, TS.kill, TV.kill, C.kill, Rt.kill, hitR, hitP, shapeOf, setRow, setAt, rowAt, D.row, D.reRow, List.isPrefixOf]; rfl) ?_ -- None
  simp only [nrm, Nat.reduceBEq, Nat.reduceBNe, reduceIte]
  refine hK _ ?_
  clear hK K
  refine TL.nil ?_
  show TC _ _ _ _ _ _
  refine TC.seq ?_
  refine TC.seq ?_
  -- region 2
  refine TC.region ?_
  refine TL.vE (Val.move 1 rfl rfl) ?_
  refine TL.drawP (yes_none rfl) rfl rfl rfl rfl rfl (K := 1000001) rfl (by first | exact .inl rfl | exact .inr ⟨rfl, by decide, rfl⟩) (by first | assumption | omega) (by repeat first | exact .nil | refine SnapsD.cons .cur ?_ | refine SnapsD.cons (.ro _) ?_ | refine SnapsD.cons (.aggRo _) ?_ | refine SnapsD.cons (.ref _ _ rfl (by first | assumption | exact whole_map _ _ (fun w c hc => by simp only [D.row, List.mem_cons, List.not_mem_nil, or_false] at hc; subst hc; exact .v _)) (by decide)) ?_) (spec_l01Once_c hby hn 6 (by decide)) (fun x => ⟨_, rfl⟩) (fun x i' h' => by simp only [St.curC, cur3, refP, pinK, pinB]; simp only [nrm, Nat.reduceBEq, Nat.reduceBNe, reduceIte]; rfl) fun x10 ci10 ch10 hp10 hci10 => ?_
  refine TL.nil ?_
  show TC _ _ _ _ _ _
  refine TC.cond rfl (fun hb => ?_) (fun hb => ?_)
  · have hk10 := hb
    refine TC.seq ?_
    -- region 3
    refine TC.region ?_
    refine TL.valE rfl (by first | exact Val.loadCAgg (n := 6) rfl rfl rfl rfl (Nat.le_of_ble_eq_true rfl) | exact Val.loadAgg (n := 6) rfl rfl rfl rfl (by simp [St.cellsAt, St.cellAt, St.root, valC]; rfl) rfl | exact Val.loadAgg (n := 6) rfl rfl rfl rfl rfl rfl) (by simp only [St.put, List.set_cons_succ, List.set_cons_zero, valC, dAct, rAct, D.row, List.take_succ_cons, List.take_zero, List.map_cons, List.map_nil]; rfl) ?_
    refine TL.opK rfl fun K hK => ?_
    refine OpT.storeAgg rfl rfl rfl rfl rfl rfl (by simp [St.store1, St.storeAll, St.cellAt, St.isMem, St.root, St.wrote, St.kill, St.setRoot, TS.kill, TV.kill, C.kill, Rt.kill, hitR, hitP, shapeOf, setRow, setAt, rowAt, D.row, D.reRow, List.isPrefixOf]; rfl) ?_ -- None
    simp only [nrm, Nat.reduceBEq, Nat.reduceBNe, reduceIte]
    refine hK _ ?_
    clear hK K
    refine TL.nil ?_
    show TC _ _ _ _ _ _
    refine TC.ret ?_
    exact ⟨.inr rfl, [_], [_], _, _, _, rfl, by decide, rfl, by simp [refV, refC, valC], rfl, rfl, by assumption, rdAct _ _ _ _ _ _ rfl⟩
  have hk10 := hb
  refine TC.skip ?_
  show TC _ _ _ _ _ _
  refine TC.seq ?_
  -- region 4
  refine TC.region ?_
  refine TL.valE rfl (by first | exact Val.field rfl rfl rfl | exact Val.fieldC rfl rfl rfl) (by simp only [St.put, List.set_cons_succ, List.set_cons_zero, List.getElem_toArray, List.getElem_cons_succ, List.getElem_cons_zero, Nat.zero_add, Nat.reduceAdd]; rfl) ?_
  refine TL.valE rfl (by first | exact Val.load rfl rfl rfl rfl rfl | exact Val.loadC rfl rfl rfl) (by simp only [nput, valC]; rfl) ?_
  refine TL.vE (Val.build (parts := [(0, (Go.Operand.tmp 13))]) (place := [(0, 1), (1, 1), (2, 1), (3, 1), (4, 1), (5, 1)]) rfl rfl rfl rfl rfl rfl rfl rfl rfl (by simp [fillC]; rfl)) ?_
  refine TL.opK rfl fun K hK => ?_
  refine OpT.alloc rfl rfl rfl rfl rfl rfl ?_ -- 4
  simp only [nrm, Nat.reduceBEq, Nat.reduceBNe, reduceIte]
  refine hK _ ?_
  clear hK K
  refine TL.opK rfl fun K hK => ?_
  refine OpT.storeAgg rfl rfl rfl rfl rfl rfl (by simp [St.store1, St.storeAll, St.cellAt, St.isMem, St.root, St.wrote, St.kill, St.setRoot, TS.kill, TV.kill, C.kill, Rt.kill, hitR, hitP, shapeOf, setRow, setAt, rowAt, D.row, D.reRow, List.isPrefixOf]; rfl) ?_ -- None
  simp only [nrm, Nat.reduceBEq, Nat.reduceBNe, reduceIte]
  refine hK _ ?_
  clear hK K
  refine TL.nil ?_
  show TC _ _ _ _ _ _
  refine TC.seq ?_
  -- region 5
  refine TC.region ?_
  refine TL.valE rfl (by first | exact Val.field rfl rfl rfl | exact Val.fieldC rfl rfl rfl) (by simp only [St.put, List.set_cons_succ, List.set_cons_zero, List.getElem_toArray, List.getElem_cons_succ, List.getElem_cons_zero, Nat.zero_add, Nat.reduceAdd]; rfl) ?_
  refine TL.valE rfl (by first | exact Val.load rfl rfl rfl rfl rfl | exact Val.loadC rfl rfl rfl) (by simp only [nput, valC]; rfl) ?_
  refine TL.cF ((spec_ActUses_f x8.Kind).k) ?_
  refine TL.vE (Val.assign 1 rfl rfl) ?_
  refine TL.nil ?_
  show TC _ _ _ _ _ _
  refine TC.seq ?_
  refine TC.seq ?_
  -- region 6
  refine TC.region ?_
  refine TL.vE (Val.assign 1 rfl rfl) ?_
  refine TL.nil ?_
  show TC _ _ _ _ _ _
  refine TC.block ?_
  refine TC.loop (fun μ st => ∃ k : Nat, ∃ a0 b0 c0 d0 e0 f0 ci ch : Int, (k ≤ (actUses x8.Kind).size ∧ 0 ≤ ci) ∧ μ = (actUses x8.Kind).size - k ∧ Can st ⟨[.one (.ptr ⟨pinB, [], 0⟩), .one .dead, .one (.ptr ⟨2, [], 0⟩), .one (.ptr ⟨3, [], 0⟩), .one (.ptr ⟨4, [], 0⟩), S (actUses x8.Kind), I k, .one .dead, .one .dead, .one .dead, .one .dead, .one .dead, .one .dead, .one .dead, .one .dead, .one .dead, .one .dead, .one .dead, .one .dead, .one .dead, .one .dead, .one .dead, .one .dead, .one .dead, .one .dead, .one .dead, .one .dead, .one .dead, .one .dead, .one .dead, .one .dead, .one .dead, .one .dead, .one .dead, .one .dead, .one .dead, .one .dead, .one .dead, .one .dead, .one .dead, .one .dead, .one .dead, .one .dead, .one .dead, .one .dead, .one .dead, .one .dead, .one .dead, .one .dead, .one .dead, .one .dead], [(2, ⟨true, [.own (.v (.int .i64 0)), .own (.v (.int .i64 0)), .own (.v (.int .i64 0)), .own (.v (.int .i64 0)), .own (.v (.int .i64 0)), .own (.v (.int .i64 0))]⟩), (3, ⟨true, [.own (.v (.int .i64 x8.Kind)), .own (.v (.int .i64 x8.M)), .own (.v (.int .i64 x8.G)), .own (.v (.int .i64 x8.X)), .own (.v (.int .i64 x8.Y)), .own (.v (.int .i64 x8.Z))]⟩), (4, ⟨true, [.own (.v (.int .i64 a0)), .own (.v (.int .i64 b0)), .own (.v (.int .i64 c0)), .own (.v (.int .i64 d0)), .own (.v (.int .i64 e0)), .own (.v (.int .i64 f0))]⟩), (pinB, ⟨true, cur3 refP ci ch⟩), (pinK, ⟨false, [.ro (.sl 1 ds)]⟩)]⟩) ((actUses x8.Kind).size) ?_ fun μ st hI => ?_
  · refine ⟨0, x8.Kind, 0, 0, 0, 0, 0, ci10, ch10, ⟨by omega, hci10⟩, by simp, ?_⟩
    exact Can.to (by repeat first | exact LessT.nil | refine LessT.drop ?_ | refine LessT.keep ?_ | refine LessT.eq (by first | rfl | (simp; done) | (simp; omega) | simp_all) ?_) (.cons rfl rfl (.cons rfl rfl (.cons rfl rfl (.cons rfl rfl (.cons rfl rfl .nil)))))
  · obtain ⟨k, a0, b0, c0, d0, e0, f0, ci, ch, ⟨hkl, hci⟩, rfl, hcan⟩ := hI
    refine TC.can hcan ?_
    clear hcan
    simp only [cur3, refP, pinB, pinK]
    refine TC.seq ?_
    refine TC.seq ?_
    -- region 7
    refine TC.region ?_
    refine TL.vE (Val.move 1 rfl rfl) ?_
    refine TL.vE (Val.move 1 rfl rfl) ?_
    refine TL.vE (by first | exact Val.len rfl rfl rfl rfl | exact Val.lenS rfl rfl rfl) ?_
    refine TL.vE (Val.lss rfl rfl rfl) ?_
    refine TL.nil ?_
    show TC _ _ _ _ _ _
    refine TC.cond rfl (fun hb => ?_) (fun hb => ?_)
    · have hk21 := hb
      refine TC.skip ?_
      show TC _ _ _ _ _ _
      refine TC.seq ?_
      refine TC.block ?_
      refine TC.seq ?_
      have hj : k < (actUses x8.Kind).size := by simp at hb; omega
      obtain ⟨cc, hcc⟩ := byte_at (actUses x8.Kind) k
      have hc := hcc hj
      have hu5 := uses_size x8.Kind
      -- region 9
      refine TC.region ?_
      refine TL.vE (Val.move 1 rfl rfl) ?_
      refine TL.vE (Val.move 1 rfl rfl) ?_
      refine TL.vE (by exact Val.indexS rfl rfl rfl rfl (by omega) hc.1) ?_
      refine TL.nil ?_
      show TC _ _ _ _ _ _
      refine TC.block ?_
      refine TC.seq ?_
      -- region 11
      refine TC.region ?_
      refine TL.vE (Val.eql rfl rfl rfl) ?_
      refine TL.vE (Val.assign 1 rfl rfl) ?_
      refine TL.nil ?_
      show TC _ _ _ _ _ _
      refine TC.cond rfl (fun hb => ?_) (fun hb => ?_)
      · have hk30 := hb
        -- region 12
        refine TC.region ?_
        refine TL.valE rfl (by first | exact Val.field rfl rfl rfl | exact Val.fieldC rfl rfl rfl) (by simp only [St.put, List.set_cons_succ, List.set_cons_zero, List.getElem_toArray, List.getElem_cons_succ, List.getElem_cons_zero, Nat.zero_add, Nat.reduceAdd]; rfl) ?_
        refine TL.valE rfl (by first | exact Val.load rfl rfl rfl rfl rfl | exact Val.loadC rfl rfl rfl) (by simp only [nput, valC]; rfl) ?_
        refine TL.valE rfl (by first | exact Val.field rfl rfl rfl | exact Val.fieldC rfl rfl rfl) (by simp only [St.put, List.set_cons_succ, List.set_cons_zero, List.getElem_toArray, List.getElem_cons_succ, List.getElem_cons_zero, Nat.zero_add, Nat.reduceAdd]; rfl) ?_
        refine TL.opK rfl fun K hK => ?_
        refine OpT.store (z := 1) rfl rfl rfl rfl rfl rfl (by simp [St.store1, St.storeAll, St.cellAt, St.isMem, St.root, St.wrote, St.kill, St.setRoot, TS.kill, TV.kill, C.kill, Rt.kill, hitR, hitP, shapeOf, setRow, setAt, rowAt, D.row, D.reRow, List.isPrefixOf]; rfl) ?_ -- None
        simp only [nrm, Nat.reduceBEq, Nat.reduceBNe, reduceIte]
        refine hK _ ?_
        clear hK K
        refine TL.nil ?_
        show TC _ _ _ _ _ _
        -- region 8
        refine TC.region ?_
        refine TL.vE (Val.move 1 rfl rfl) ?_
        refine TL.vE (Val.add rfl rfl rfl (by first | omega | (simp only [List.length_map]; omega)) (by first | omega | (simp only [List.length_map]; omega))) ?_
        refine TL.vE (Val.assign 1 rfl rfl) ?_
        refine TL.nil ?_
        first
        | (first | refine Seq.normal ⟨_, ?_, k + 1, a0, x8.M, c0, d0, e0, f0, ci, ch, ?_, rfl, ?_⟩ | refine Seq.normal (Q := fun _ _ => True) ⟨_, ?_, k + 1, a0, x8.M, c0, d0, e0, f0, ci, ch, ?_, rfl, ?_⟩
           · omega
           · (exact ⟨by omega, hci⟩)
           · exact Can.to (by repeat first | exact LessT.nil | refine LessT.drop ?_ | refine LessT.keep ?_ | refine LessT.eq (by first | rfl | (simp; done) | (simp; omega) | simp_all) ?_) (.cons rfl rfl (.cons rfl rfl (.cons rfl rfl (.cons rfl rfl (.cons rfl rfl .nil))))))
      have hk30 := hb
      refine TC.seq ?_
      -- region 13
      refine TC.region ?_
      refine TL.vE (Val.eql rfl rfl rfl) ?_
      refine TL.vE (Val.assign 1 rfl rfl) ?_
      refine TL.nil ?_
      show TC _ _ _ _ _ _
      refine TC.cond rfl (fun hb => ?_) (fun hb => ?_)
      · have hk35 := hb
        -- region 14
        refine TC.region ?_
        refine TL.valE rfl (by first | exact Val.field rfl rfl rfl | exact Val.fieldC rfl rfl rfl) (by simp only [St.put, List.set_cons_succ, List.set_cons_zero, List.getElem_toArray, List.getElem_cons_succ, List.getElem_cons_zero, Nat.zero_add, Nat.reduceAdd]; rfl) ?_
        refine TL.valE rfl (by first | exact Val.load rfl rfl rfl rfl rfl | exact Val.loadC rfl rfl rfl) (by simp only [nput, valC]; rfl) ?_
        refine TL.valE rfl (by first | exact Val.field rfl rfl rfl | exact Val.fieldC rfl rfl rfl) (by simp only [St.put, List.set_cons_succ, List.set_cons_zero, List.getElem_toArray, List.getElem_cons_succ, List.getElem_cons_zero, Nat.zero_add, Nat.reduceAdd]; rfl) ?_
        refine TL.opK rfl fun K hK => ?_
        refine OpT.store (z := 1) rfl rfl rfl rfl rfl rfl (by simp [St.store1, St.storeAll, St.cellAt, St.isMem, St.root, St.wrote, St.kill, St.setRoot, TS.kill, TV.kill, C.kill, Rt.kill, hitR, hitP, shapeOf, setRow, setAt, rowAt, D.row, D.reRow, List.isPrefixOf]; rfl) ?_ -- None
        simp only [nrm, Nat.reduceBEq, Nat.reduceBNe, reduceIte]
        refine hK _ ?_
        clear hK K
        refine TL.nil ?_
        show TC _ _ _ _ _ _
        -- region 8
        refine TC.region ?_
        refine TL.vE (Val.move 1 rfl rfl) ?_
        refine TL.vE (Val.add rfl rfl rfl (by first | omega | (simp only [List.length_map]; omega)) (by first | omega | (simp only [List.length_map]; omega))) ?_
        refine TL.vE (Val.assign 1 rfl rfl) ?_
        refine TL.nil ?_
        first
        | (first | refine Seq.normal ⟨_, ?_, k + 1, a0, b0, x8.G, d0, e0, f0, ci, ch, ?_, rfl, ?_⟩ | refine Seq.normal (Q := fun _ _ => True) ⟨_, ?_, k + 1, a0, b0, x8.G, d0, e0, f0, ci, ch, ?_, rfl, ?_⟩
           · omega
           · (exact ⟨by omega, hci⟩)
           · exact Can.to (by repeat first | exact LessT.nil | refine LessT.drop ?_ | refine LessT.keep ?_ | refine LessT.eq (by first | rfl | (simp; done) | (simp; omega) | simp_all) ?_) (.cons rfl rfl (.cons rfl rfl (.cons rfl rfl (.cons rfl rfl (.cons rfl rfl .nil))))))
      have hk35 := hb
      refine TC.seq ?_
      -- region 15
      refine TC.region ?_
      refine TL.vE (Val.eql rfl rfl rfl) ?_
      refine TL.vE (Val.assign 1 rfl rfl) ?_
      refine TL.nil ?_
      show TC _ _ _ _ _ _
      refine TC.cond rfl (fun hb => ?_) (fun hb => ?_)
      · have hk40 := hb
        -- region 16
        refine TC.region ?_
        refine TL.valE rfl (by first | exact Val.field rfl rfl rfl | exact Val.fieldC rfl rfl rfl) (by simp only [St.put, List.set_cons_succ, List.set_cons_zero, List.getElem_toArray, List.getElem_cons_succ, List.getElem_cons_zero, Nat.zero_add, Nat.reduceAdd]; rfl) ?_
        refine TL.valE rfl (by first | exact Val.load rfl rfl rfl rfl rfl | exact Val.loadC rfl rfl rfl) (by simp only [nput, valC]; rfl) ?_
        refine TL.valE rfl (by first | exact Val.field rfl rfl rfl | exact Val.fieldC rfl rfl rfl) (by simp only [St.put, List.set_cons_succ, List.set_cons_zero, List.getElem_toArray, List.getElem_cons_succ, List.getElem_cons_zero, Nat.zero_add, Nat.reduceAdd]; rfl) ?_
        refine TL.opK rfl fun K hK => ?_
        refine OpT.store (z := 1) rfl rfl rfl rfl rfl rfl (by simp [St.store1, St.storeAll, St.cellAt, St.isMem, St.root, St.wrote, St.kill, St.setRoot, TS.kill, TV.kill, C.kill, Rt.kill, hitR, hitP, shapeOf, setRow, setAt, rowAt, D.row, D.reRow, List.isPrefixOf]; rfl) ?_ -- None
        simp only [nrm, Nat.reduceBEq, Nat.reduceBNe, reduceIte]
        refine hK _ ?_
        clear hK K
        refine TL.nil ?_
        show TC _ _ _ _ _ _
        -- region 8
        refine TC.region ?_
        refine TL.vE (Val.move 1 rfl rfl) ?_
        refine TL.vE (Val.add rfl rfl rfl (by first | omega | (simp only [List.length_map]; omega)) (by first | omega | (simp only [List.length_map]; omega))) ?_
        refine TL.vE (Val.assign 1 rfl rfl) ?_
        refine TL.nil ?_
        first
        | (first | refine Seq.normal ⟨_, ?_, k + 1, a0, b0, c0, x8.X, e0, f0, ci, ch, ?_, rfl, ?_⟩ | refine Seq.normal (Q := fun _ _ => True) ⟨_, ?_, k + 1, a0, b0, c0, x8.X, e0, f0, ci, ch, ?_, rfl, ?_⟩
           · omega
           · (exact ⟨by omega, hci⟩)
           · exact Can.to (by repeat first | exact LessT.nil | refine LessT.drop ?_ | refine LessT.keep ?_ | refine LessT.eq (by first | rfl | (simp; done) | (simp; omega) | simp_all) ?_) (.cons rfl rfl (.cons rfl rfl (.cons rfl rfl (.cons rfl rfl (.cons rfl rfl .nil))))))
      have hk40 := hb
      refine TC.seq ?_
      -- region 17
      refine TC.region ?_
      refine TL.vE (Val.eql rfl rfl rfl) ?_
      refine TL.vE (Val.assign 1 rfl rfl) ?_
      refine TL.nil ?_
      show TC _ _ _ _ _ _
      refine TC.cond rfl (fun hb => ?_) (fun hb => ?_)
      · have hk45 := hb
        -- region 18
        refine TC.region ?_
        refine TL.valE rfl (by first | exact Val.field rfl rfl rfl | exact Val.fieldC rfl rfl rfl) (by simp only [St.put, List.set_cons_succ, List.set_cons_zero, List.getElem_toArray, List.getElem_cons_succ, List.getElem_cons_zero, Nat.zero_add, Nat.reduceAdd]; rfl) ?_
        refine TL.valE rfl (by first | exact Val.load rfl rfl rfl rfl rfl | exact Val.loadC rfl rfl rfl) (by simp only [nput, valC]; rfl) ?_
        refine TL.valE rfl (by first | exact Val.field rfl rfl rfl | exact Val.fieldC rfl rfl rfl) (by simp only [St.put, List.set_cons_succ, List.set_cons_zero, List.getElem_toArray, List.getElem_cons_succ, List.getElem_cons_zero, Nat.zero_add, Nat.reduceAdd]; rfl) ?_
        refine TL.opK rfl fun K hK => ?_
        refine OpT.store (z := 1) rfl rfl rfl rfl rfl rfl (by simp [St.store1, St.storeAll, St.cellAt, St.isMem, St.root, St.wrote, St.kill, St.setRoot, TS.kill, TV.kill, C.kill, Rt.kill, hitR, hitP, shapeOf, setRow, setAt, rowAt, D.row, D.reRow, List.isPrefixOf]; rfl) ?_ -- None
        simp only [nrm, Nat.reduceBEq, Nat.reduceBNe, reduceIte]
        refine hK _ ?_
        clear hK K
        refine TL.nil ?_
        show TC _ _ _ _ _ _
        -- region 8
        refine TC.region ?_
        refine TL.vE (Val.move 1 rfl rfl) ?_
        refine TL.vE (Val.add rfl rfl rfl (by first | omega | (simp only [List.length_map]; omega)) (by first | omega | (simp only [List.length_map]; omega))) ?_
        refine TL.vE (Val.assign 1 rfl rfl) ?_
        refine TL.nil ?_
        first
        | (first | refine Seq.normal ⟨_, ?_, k + 1, a0, b0, c0, d0, x8.Y, f0, ci, ch, ?_, rfl, ?_⟩ | refine Seq.normal (Q := fun _ _ => True) ⟨_, ?_, k + 1, a0, b0, c0, d0, x8.Y, f0, ci, ch, ?_, rfl, ?_⟩
           · omega
           · (exact ⟨by omega, hci⟩)
           · exact Can.to (by repeat first | exact LessT.nil | refine LessT.drop ?_ | refine LessT.keep ?_ | refine LessT.eq (by first | rfl | (simp; done) | (simp; omega) | simp_all) ?_) (.cons rfl rfl (.cons rfl rfl (.cons rfl rfl (.cons rfl rfl (.cons rfl rfl .nil))))))
      have hk45 := hb
      -- region 10
      refine TC.region ?_
      refine TL.valE rfl (by first | exact Val.field rfl rfl rfl | exact Val.fieldC rfl rfl rfl) (by simp only [St.put, List.set_cons_succ, List.set_cons_zero, List.getElem_toArray, List.getElem_cons_succ, List.getElem_cons_zero, Nat.zero_add, Nat.reduceAdd]; rfl) ?_
      refine TL.valE rfl (by first | exact Val.load rfl rfl rfl rfl rfl | exact Val.loadC rfl rfl rfl) (by simp only [nput, valC]; rfl) ?_
      refine TL.valE rfl (by first | exact Val.field rfl rfl rfl | exact Val.fieldC rfl rfl rfl) (by simp only [St.put, List.set_cons_succ, List.set_cons_zero, List.getElem_toArray, List.getElem_cons_succ, List.getElem_cons_zero, Nat.zero_add, Nat.reduceAdd]; rfl) ?_
      refine TL.opK rfl fun K hK => ?_
      refine OpT.store (z := 1) rfl rfl rfl rfl rfl rfl (by simp [St.store1, St.storeAll, St.cellAt, St.isMem, St.root, St.wrote, St.kill, St.setRoot, TS.kill, TV.kill, C.kill, Rt.kill, hitR, hitP, shapeOf, setRow, setAt, rowAt, D.row, D.reRow, List.isPrefixOf]; rfl) ?_ -- None
      simp only [nrm, Nat.reduceBEq, Nat.reduceBNe, reduceIte]
      refine hK _ ?_
      clear hK K
      refine TL.nil ?_
      show TC _ _ _ _ _ _
      -- region 8
      refine TC.region ?_
      refine TL.vE (Val.move 1 rfl rfl) ?_
      refine TL.vE (Val.add rfl rfl rfl (by first | omega | (simp only [List.length_map]; omega)) (by first | omega | (simp only [List.length_map]; omega))) ?_
      refine TL.vE (Val.assign 1 rfl rfl) ?_
      refine TL.nil ?_
      first
      | (first | refine Seq.normal ⟨_, ?_, k + 1, a0, b0, c0, d0, e0, x8.Z, ci, ch, ?_, rfl, ?_⟩ | refine Seq.normal (Q := fun _ _ => True) ⟨_, ?_, k + 1, a0, b0, c0, d0, e0, x8.Z, ci, ch, ?_, rfl, ?_⟩
         · omega
         · (exact ⟨by omega, hci⟩)
         · exact Can.to (by repeat first | exact LessT.nil | refine LessT.drop ?_ | refine LessT.keep ?_ | refine LessT.eq (by first | rfl | (simp; done) | (simp; omega) | simp_all) ?_) (.cons rfl rfl (.cons rfl rfl (.cons rfl rfl (.cons rfl rfl (.cons rfl rfl .nil))))))
    have hk21 := hb
    refine TC.exit ?_
    -- exit 0
    show TC _ _ _ _ _ _
    refine TC.seq ?_
    -- region 19
    refine TC.region ?_
    refine TL.valE rfl (by first | exact Val.loadCAgg (n := 6) rfl rfl rfl rfl (Nat.le_of_ble_eq_true rfl) | exact Val.loadAgg (n := 6) rfl rfl rfl rfl (by simp [St.cellsAt, St.cellAt, St.root, valC]; rfl) rfl | exact Val.loadAgg (n := 6) rfl rfl rfl rfl rfl rfl) (by simp only [St.put, List.set_cons_succ, List.set_cons_zero, valC, dAct, rAct, D.row, List.take_succ_cons, List.take_zero, List.map_cons, List.map_nil]; rfl) ?_
    refine TL.opK rfl fun K hK => ?_
    refine OpT.storeAgg rfl rfl rfl rfl rfl rfl (by simp [St.store1, St.storeAll, St.cellAt, St.isMem, St.root, St.wrote, St.kill, St.setRoot, TS.kill, TV.kill, C.kill, Rt.kill, hitR, hitP, shapeOf, setRow, setAt, rowAt, D.row, D.reRow, List.isPrefixOf]; rfl) ?_ -- None
    simp only [nrm, Nat.reduceBEq, Nat.reduceBNe, reduceIte]
    refine hK _ ?_
    clear hK K
    refine TL.nil ?_
    show TC _ _ _ _ _ _
    refine TC.ret ?_
    exact ⟨.inr rfl, [_], [_], _, _, _, rfl, by decide, rfl, by simp [refV, refC, valC], rfl, rfl, by assumption, rdAct _ _ _ _ _ _ rfl⟩

-- loop.example/g00975/spec.l37Bent: params ['*spec.l01Cur', 'string'] results ['string'] ('arr', [('app', 'Go.ResultVar.tmp', ['4'])])
theorem spec_l37Bent_c {ds : List D} (hby : isBytes ds) (hn : ds.length ≤ 1048576) (s : ByteArray) (hs : s.size ≤ 100) : FunC Tryd.prog 84 ds [.one (.ptr ⟨pinB, [], 0⟩), S s] (RDr S (fun _ => True)) := by
  refine FunC.of Tryd.func84 rfl (by simp [Tryd.ntmps84]) fun w g0 ci0 ch0 hci0 => ?_
  simp only [Tryd.ntmps84, List.length_cons, List.length_nil, Nat.reduceAdd, Nat.reduceSub, List.replicate, List.cons_append, List.nil_append, stC, cur3, refP, pinB, pinK]
  refine TC.seq ?_
  -- region 0
  refine TC.region ?_
  refine TL.vE (Val.assign 1 rfl rfl) ?_
  refine TL.nil ?_
  show TC _ _ _ _ _ _
  refine TC.seq ?_
  refine TC.seq ?_
  -- region 1
  refine TC.region ?_
  refine TL.vE (Val.move 1 rfl rfl) ?_
  refine TL.drawP (yes_none rfl) rfl rfl rfl rfl rfl (K := 1000001) rfl (by first | exact .inl rfl | exact .inr ⟨rfl, by decide, rfl⟩) (by first | assumption | omega) (by repeat first | exact .nil | refine SnapsD.cons .cur ?_ | refine SnapsD.cons (.ro _) ?_ | refine SnapsD.cons (.aggRo _) ?_ | refine SnapsD.cons (.ref _ _ rfl (by first | assumption | exact whole_map _ _ (fun w c hc => by simp only [D.row, List.mem_cons, List.not_mem_nil, or_false] at hc; subst hc; exact .v _)) (by decide)) ?_) (spec_l01Below_c hby hn 6 (by decide)) (fun x => ⟨_, rfl⟩) (fun x i' h' => by simp only [St.curC, cur3, refP, pinK, pinB]; simp only [nrm, Nat.reduceBEq, Nat.reduceBNe, reduceIte]; rfl) fun x6 ci6 ch6 hp6 hci6 => ?_
  refine TL.nil ?_
  show TC _ _ _ _ _ _
  refine TC.block ?_
  refine TC.seq ?_
  -- region 2
  refine TC.region ?_
  refine TL.vE (Val.eql rfl rfl rfl) ?_
  refine TL.vE (Val.assign 1 rfl rfl) ?_
  refine TL.nil ?_
  show TC _ _ _ _ _ _
  refine TC.cond rfl (fun hb => ?_) (fun hb => ?_)
  · have hk7 := hb
    refine TC.seq ?_
    -- region 3
    refine TC.region ?_
    refine TL.vE (Val.move 1 rfl rfl) ?_
    refine TL.vE (Val.addS rfl rfl rfl (by first | decide | omega | (simp [lit_size, ByteArray.size_append, strOfNums_size]; omega))) ?_
    refine TL.vE (Val.addS rfl rfl rfl (by first | decide | omega | (simp [lit_size, ByteArray.size_append, strOfNums_size]; omega))) ?_
    refine TL.vE (Val.assign 1 rfl rfl) ?_
    refine TL.nil ?_
    show TC _ _ _ _ _ _
    refine TC.ret ?_
    exact ⟨.inr rfl, [_], [_], _, _, _, rfl, by decide, rfl, by simp [refV, refC, valC], rfl, rfl, by assumption, ⟨_, trivial, rfl⟩⟩
  have hk7 := hb
  refine TC.seq ?_
  -- region 4
  refine TC.region ?_
  refine TL.vE (Val.eql rfl rfl rfl) ?_
  refine TL.vE (Val.assign 1 rfl rfl) ?_
  refine TL.nil ?_
  show TC _ _ _ _ _ _
  refine TC.cond rfl (fun hb => ?_) (fun hb => ?_)
  · have hk12 := hb
    refine TC.seq ?_
    -- region 5
    refine TC.region ?_
    refine TL.vE (Val.move 1 rfl rfl) ?_
    refine TL.vE (Val.move 1 rfl rfl) ?_
    refine TL.opK rfl fun K hK => ?_
    refine OpT.buildP rfl rfl (xs := [(Go.Operand.const (Go.Value.string { data := #[32, 49] })), (Go.Operand.const (Go.Value.string { data := #[120] })), (Go.Operand.const (Go.Value.string { data := #[32, 45, 49] })), (Go.Operand.const (Go.Value.string { data := #[48] }))]) rfl rfl rfl rfl (sz := 1) rfl rfl rfl (by decide) (by decide) ?_ -- 16
    simp only [nrm, Nat.reduceBEq, Nat.reduceBNe, reduceIte]
    refine hK _ ?_
    clear hK K
    refine TL.drawP (yes_none rfl) rfl rfl rfl rfl rfl (K := 1000001) rfl (by first | exact .inl rfl | exact .inr ⟨rfl, by decide, rfl⟩) (by first | assumption | omega) (by repeat first | exact .nil | refine SnapsD.cons .cur ?_ | refine SnapsD.cons (.ro _) ?_ | refine SnapsD.cons (.aggRo _) ?_ | refine SnapsD.cons (.ref _ _ rfl (by first | assumption | exact whole_map _ _ (fun w c hc => by simp only [D.row, List.mem_cons, List.not_mem_nil, or_false] at hc; subst hc; exact .v _)) (by decide)) ?_) (spec_l01Pick_c hby hn [⟨#[32, 49]⟩, ⟨#[120]⟩, ⟨#[32, 45, 49]⟩, ⟨#[48]⟩] (by decide) (by decide)) (fun x => ⟨_, rfl⟩) (fun x i' h' => by simp only [St.curC, cur3, refP, pinK, pinB]; simp only [nrm, Nat.reduceBEq, Nat.reduceBNe, reduceIte]; rfl) fun x17 ci17 ch17 hp17 hci17 => ?_
    have hz17 : x17.size ≤ 20 := (by decide +kernel : ∀ z ∈ ([⟨#[32, 49]⟩, ⟨#[120]⟩, ⟨#[32, 45, 49]⟩, ⟨#[48]⟩] : List ByteArray), z.size ≤ 20) x17 hp17
    refine TL.vE (Val.addS rfl rfl rfl (by omega)) ?_
    refine TL.vE (Val.assign 1 rfl rfl) ?_
    refine TL.nil ?_
    show TC _ _ _ _ _ _
    refine TC.ret ?_
    exact ⟨.inr rfl, [_], [_], _, _, _, rfl, by decide, rfl, by simp [refV, refC, valC], rfl, rfl, by assumption, ⟨_, trivial, rfl⟩⟩
  have hk12 := hb
  refine TC.skip ?_
  show TC _ _ _ _ _ _
  refine TC.seq ?_
  -- region 6
  refine TC.region ?_
  refine TL.vE (Val.move 1 rfl rfl) ?_
  refine TL.vE (Val.assign 1 rfl rfl) ?_
  refine TL.nil ?_
  show TC _ _ _ _ _ _
  refine TC.ret ?_
  exact ⟨.inr rfl, [_], [_], _, _, _, rfl, by decide, rfl, by simp [refV, refC, valC], rfl, rfl, by assumption, ⟨_, trivial, rfl⟩⟩

-- loop.example/g00975/spec.DrawActLine: params ['[]uint8'] results ['impl.Act = loop.example/g00975/impl.Act'] ('arr', [('app', 'Go.ResultVar.cell', ['2', '27'])])
theorem spec_DrawActLine_f (ds : List D) (hby : isBytes ds) (hn : ds.length ≤ 1048576) : Fun Tryd.prog 28 [L 1 ds] (RDr (fun x : VAct => A (rAct x)) (fun _ => True)) := by
  refine Fun.of Tryd.func28 rfl (by simp [Tryd.ntmps28]) fun w g0 => ?_
  simp only [Tryd.ntmps28, List.length_cons, List.length_nil, Nat.reduceAdd, Nat.reduceSub, List.replicate, List.cons_append, List.nil_append]
  refine TC.seq ?_
  -- region 0
  refine TC.region ?_
  refine TL.opK rfl fun K hK => ?_
  refine OpT.alloc rfl rfl rfl rfl rfl rfl ?_ -- 2
  simp only [nrm, Nat.reduceBEq, Nat.reduceBNe, reduceIte]
  refine hK _ ?_
  clear hK K
  refine TL.nil ?_
  show TC _ _ _ _ _ _
  refine TC.seq ?_
  -- region 1
  refine TC.region ?_
  refine TL.vE (Val.move 1 rfl rfl) ?_
  refine TL.newCur (yes_none rfl) rfl rfl hby hn rfl (by decide) fun ch0 => ?_
  simp only [curRow]
  simp only [nrm, Nat.reduceBEq, Nat.reduceBNe, reduceIte]
  refine TL.drawP (yes_none rfl) rfl rfl rfl rfl rfl (K := 4) rfl (by first | exact .inl rfl | exact .inr ⟨rfl, by decide, rfl⟩) (by first | assumption | omega) (by repeat first | exact .nil | refine SnapsD.cons .cur ?_ | refine SnapsD.cons (.ro _) ?_ | refine SnapsD.cons (.aggRo _) ?_ | refine SnapsD.cons (.ref _ _ rfl (by first | assumption | exact whole_map _ _ (fun w c hc => by simp only [D.row, List.mem_cons, List.not_mem_nil, or_false] at hc; subst hc; exact .v _)) (by decide)) ?_) (spec_l37Act_c hby hn) (fun x => ⟨_, rfl⟩) (fun x i' h' => by simp only [St.curC, cur3, refP, pinK, pinB]; simp only [nrm, Nat.reduceBEq, Nat.reduceBNe, reduceIte]; rfl) fun x5 ci5 ch5 hp5 hci5 => ?_
  refine TL.opK rfl fun K hK => ?_
  refine OpT.storeAgg rfl rfl rfl rfl rfl rfl (by simp [St.store1, St.storeAll, St.cellAt, St.isMem, St.root, St.wrote, St.kill, St.setRoot, TS.kill, TV.kill, C.kill, Rt.kill, hitR, hitP, shapeOf, setRow, setAt, rowAt, D.row, D.reRow, List.isPrefixOf]; rfl) ?_ -- None
  simp only [nrm, Nat.reduceBEq, Nat.reduceBNe, reduceIte]
  refine hK _ ?_
  clear hK K
  refine TL.nil ?_
  show TC _ _ _ _ _ _
  refine TC.ret ?_
  exact ⟨.inr rfl, [_], [_], _, rfl, by decide, rfl, by simp [refV, refC, valC], rfl, rdAct _ _ _ _ _ _ rfl⟩

-- loop.example/g00975/spec.DrawInsLine: params ['[]uint8'] results ['impl.Ins = loop.example/g00975/impl.Ins'] ('arr', [('app', 'Go.ResultVar.cell', ['2', '66'])])
theorem spec_DrawInsLine_f (ds : List D) (hby : isBytes ds) (hn : ds.length ≤ 1048576) : Fun Tryd.prog 29 [L 1 ds] (RDr (fun x : VIns => A (rIns x)) (fun _ => True)) := by
  refine Fun.of Tryd.func29 rfl (by simp [Tryd.ntmps29]) fun w g0 => ?_
  simp only [Tryd.ntmps29, List.length_cons, List.length_nil, Nat.reduceAdd, Nat.reduceSub, List.replicate, List.cons_append, List.nil_append]
  refine TC.seq ?_
  -- region 0
  refine TC.region ?_
  refine TL.opK rfl fun K hK => ?_
  refine OpT.alloc rfl rfl rfl rfl rfl rfl ?_ -- 2
  simp only [nrm, Nat.reduceBEq, Nat.reduceBNe, reduceIte]
  refine hK _ ?_
  clear hK K
  refine TL.nil ?_
  show TC _ _ _ _ _ _
  refine TC.seq ?_
  -- region 1
  refine TC.region ?_
  refine TL.vE (Val.move 1 rfl rfl) ?_
  refine TL.newCur (yes_none rfl) rfl rfl hby hn rfl (by decide) fun ch0 => ?_
  simp only [curRow]
  simp only [nrm, Nat.reduceBEq, Nat.reduceBNe, reduceIte]
  refine TL.drawP (yes_none rfl) rfl rfl rfl rfl rfl (K := 4) rfl (by first | exact .inl rfl | exact .inr ⟨rfl, by decide, rfl⟩) (by first | assumption | omega) (by repeat first | exact .nil | refine SnapsD.cons .cur ?_ | refine SnapsD.cons (.ro _) ?_ | refine SnapsD.cons (.aggRo _) ?_ | refine SnapsD.cons (.ref _ _ rfl (by first | assumption | exact whole_map _ _ (fun w c hc => by simp only [D.row, List.mem_cons, List.not_mem_nil, or_false] at hc; subst hc; exact .v _)) (by decide)) ?_) (spec_l10AnyIns_c hby hn) (fun x => ⟨_, rfl⟩) (fun x i' h' => by simp only [St.curC, cur3, refP, pinK, pinB]; simp only [nrm, Nat.reduceBEq, Nat.reduceBNe, reduceIte]; rfl) fun x5 ci5 ch5 hp5 hci5 => ?_
  refine TL.opK rfl fun K hK => ?_
  refine OpT.storeAgg rfl rfl rfl rfl rfl rfl (by simp [St.store1, St.storeAll, St.cellAt, St.isMem, St.root, St.wrote, St.kill, St.setRoot, TS.kill, TV.kill, C.kill, Rt.kill, hitR, hitP, shapeOf, setRow, setAt, rowAt, D.row, D.reRow, List.isPrefixOf]; rfl) ?_ -- None
  simp only [nrm, Nat.reduceBEq, Nat.reduceBNe, reduceIte]
  refine hK _ ?_
  clear hK K
  refine TL.nil ?_
  show TC _ _ _ _ _ _
  refine TC.ret ?_
  exact ⟨.inr rfl, [_], [_], _, rfl, by decide, rfl, by simp [refV, refC, valC], rfl, rdIns _ _ rfl⟩

-- loop.example/g00975/spec.DrawActName: params ['[]uint8'] results ['int'] ('arr', [('app', 'Go.ResultVar.tmp', ['2'])])
theorem spec_DrawActName_f (ds : List D) (hby : isBytes ds) (hn : ds.length ≤ 1048576) : Fun Tryd.prog 36 [L 1 ds] (RDr I (fun _ => True)) := by
  refine Fun.of Tryd.func36 rfl (by simp [Tryd.ntmps36]) fun w g0 => ?_
  simp only [Tryd.ntmps36, List.length_cons, List.length_nil, Nat.reduceAdd, Nat.reduceSub, List.replicate, List.cons_append, List.nil_append]
  refine TC.seq ?_
  -- region 0
  refine TC.region ?_
  refine TL.vE (Val.assign 1 rfl rfl) ?_
  refine TL.nil ?_
  show TC _ _ _ _ _ _
  refine TC.seq ?_
  -- region 1
  refine TC.region ?_
  refine TL.vE (Val.move 1 rfl rfl) ?_
  refine TL.newCur (yes_none rfl) rfl rfl hby hn rfl (by decide) fun ch0 => ?_
  simp only [curRow]
  simp only [nrm, Nat.reduceBEq, Nat.reduceBNe, reduceIte]
  refine TL.drawP (yes_none rfl) rfl rfl rfl rfl rfl (K := 4) rfl (by first | exact .inl rfl | exact .inr ⟨rfl, by decide, rfl⟩) (by first | assumption | omega) (by repeat first | exact .nil | refine SnapsD.cons .cur ?_ | refine SnapsD.cons (.ro _) ?_ | refine SnapsD.cons (.aggRo _) ?_ | refine SnapsD.cons (.ref _ _ rfl (by first | assumption | exact whole_map _ _ (fun w c hc => by simp only [D.row, List.mem_cons, List.not_mem_nil, or_false] at hc; subst hc; exact .v _)) (by decide)) ?_) (spec_l01Below_c hby hn 20 (by decide)) (fun x => ⟨_, rfl⟩) (fun x i' h' => by simp only [St.curC, cur3, refP, pinK, pinB]; simp only [nrm, Nat.reduceBEq, Nat.reduceBNe, reduceIte]; rfl) fun x5 ci5 ch5 hp5 hci5 => ?_
  refine TL.vE (Val.sub rfl rfl rfl (by first | omega | (simp only [List.length_map]; omega)) (by first | omega | (simp only [List.length_map]; omega))) ?_
  refine TL.vE (Val.assign 1 rfl rfl) ?_
  refine TL.nil ?_
  show TC _ _ _ _ _ _
  refine TC.ret ?_
  exact ⟨.inr rfl, [_], [_], _, rfl, by decide, rfl, by simp [refV, refC, valC], rfl, ⟨_, trivial, rfl⟩⟩

-- loop.example/g00975/spec.DrawReadAct: params ['[]uint8'] results ['string'] ('arr', [('app', 'Go.ResultVar.tmp', ['2'])])
theorem spec_DrawReadAct_f (ds : List D) (hby : isBytes ds) (hn : ds.length ≤ 1048576) : Fun Tryd.prog 32 [L 1 ds] (RDr S (fun _ => True)) := by
  refine Fun.of Tryd.func32 rfl (by simp [Tryd.ntmps32]) fun w g0 => ?_
  simp only [Tryd.ntmps32, List.length_cons, List.length_nil, Nat.reduceAdd, Nat.reduceSub, List.replicate, List.cons_append, List.nil_append]
  refine TC.seq ?_
  -- region 0
  refine TC.region ?_
  refine TL.vE (Val.assign 1 rfl rfl) ?_
  refine TL.nil ?_
  show TC _ _ _ _ _ _
  refine TC.seq ?_
  -- region 1
  refine TC.region ?_
  refine TL.vE (Val.move 1 rfl rfl) ?_
  refine TL.newCur (yes_none rfl) rfl rfl hby hn rfl (by decide) fun ch0 => ?_
  simp only [curRow]
  simp only [nrm, Nat.reduceBEq, Nat.reduceBNe, reduceIte]
  refine TL.vE (Val.assign 1 rfl rfl) ?_
  refine TL.nil ?_
  show TC _ _ _ _ _ _
  refine TC.seq ?_
  refine TC.seq ?_
  -- region 2
  refine TC.region ?_
  refine TL.vE (Val.move 1 rfl rfl) ?_
  refine TL.drawP (yes_none rfl) rfl rfl rfl rfl rfl (K := 5) rfl (by first | exact .inl rfl | exact .inr ⟨rfl, by decide, rfl⟩) (by first | assumption | omega) (by repeat first | exact .nil | refine SnapsD.cons .cur ?_ | refine SnapsD.cons (.ro _) ?_ | refine SnapsD.cons (.aggRo _) ?_ | refine SnapsD.cons (.ref _ _ rfl (by first | assumption | exact whole_map _ _ (fun w c hc => by simp only [D.row, List.mem_cons, List.not_mem_nil, or_false] at hc; subst hc; exact .v _)) (by decide)) ?_) (spec_l01Once_c hby hn 5 (by decide)) (fun x => ⟨_, rfl⟩) (fun x i' h' => by simp only [St.curC, cur3, refP, pinK, pinB]; simp only [nrm, Nat.reduceBEq, Nat.reduceBNe, reduceIte]; rfl) fun x7 ci7 ch7 hp7 hci7 => ?_
  refine TL.nil ?_
  show TC _ _ _ _ _ _
  refine TC.cond rfl (fun hb => ?_) (fun hb => ?_)
  · have hk7 := hb
    refine TC.seq ?_
    -- region 3
    refine TC.region ?_
    refine TL.vE (Val.move 1 rfl rfl) ?_
    refine TL.opK rfl fun K hK => ?_
    refine OpT.buildP rfl rfl (xs := [(Go.Operand.const (Go.Value.string { data := #[] })), (Go.Operand.const (Go.Value.string { data := #[115, 116, 101, 112] })), (Go.Operand.const (Go.Value.string { data := #[115, 116, 101, 112, 32, 48] })), (Go.Operand.const (Go.Value.string { data := #[115, 116, 101, 112, 32, 48, 32, 49] })), (Go.Operand.const (Go.Value.string { data := #[115, 116, 101, 112, 32, 48, 32, 48, 49] })), (Go.Operand.const (Go.Value.string { data := #[99, 111, 108, 100] })), (Go.Operand.const (Go.Value.string { data := #[99, 111, 108, 100, 32, 49] })), (Go.Operand.const (Go.Value.string { data := #[119, 97, 108, 107, 32, 49] })), (Go.Operand.const (Go.Value.string { data := #[115, 101, 116, 32, 48, 32, 48, 32, 49, 32, 50, 32, 51] })), (Go.Operand.const (Go.Value.string { data := #[35, 32, 105, 110] }))]) rfl rfl rfl rfl (sz := 1) rfl rfl rfl (by decide) (by decide) ?_ -- 9
    simp only [nrm, Nat.reduceBEq, Nat.reduceBNe, reduceIte]
    refine hK _ ?_
    clear hK K
    refine TL.drawP (yes_none rfl) rfl rfl rfl rfl rfl (K := 5) rfl (by first | exact .inl rfl | exact .inr ⟨rfl, by decide, rfl⟩) (by first | assumption | omega) (by repeat first | exact .nil | refine SnapsD.cons .cur ?_ | refine SnapsD.cons (.ro _) ?_ | refine SnapsD.cons (.aggRo _) ?_ | refine SnapsD.cons (.ref _ _ rfl (by first | assumption | exact whole_map _ _ (fun w c hc => by simp only [D.row, List.mem_cons, List.not_mem_nil, or_false] at hc; subst hc; exact .v _)) (by decide)) ?_) (spec_l01Pick_c hby hn [⟨#[]⟩, ⟨#[115, 116, 101, 112]⟩, ⟨#[115, 116, 101, 112, 32, 48]⟩, ⟨#[115, 116, 101, 112, 32, 48, 32, 49]⟩, ⟨#[115, 116, 101, 112, 32, 48, 32, 48, 49]⟩, ⟨#[99, 111, 108, 100]⟩, ⟨#[99, 111, 108, 100, 32, 49]⟩, ⟨#[119, 97, 108, 107, 32, 49]⟩, ⟨#[115, 101, 116, 32, 48, 32, 48, 32, 49, 32, 50, 32, 51]⟩, ⟨#[35, 32, 105, 110]⟩] (by decide) (by decide)) (fun x => ⟨_, rfl⟩) (fun x i' h' => by simp only [St.curC, cur3, refP, pinK, pinB]; simp only [nrm, Nat.reduceBEq, Nat.reduceBNe, reduceIte]; rfl) fun x10 ci10 ch10 hp10 hci10 => ?_
    refine TL.vE (Val.assign 1 rfl rfl) ?_
    refine TL.nil ?_
    show TC _ _ _ _ _ _
    refine TC.ret ?_
    exact ⟨.inr rfl, [_], [_], _, rfl, by decide, rfl, by simp [refV, refC, valC], rfl, ⟨_, trivial, rfl⟩⟩
  have hk7 := hb
  refine TC.skip ?_
  show TC _ _ _ _ _ _
  refine TC.seq ?_
  -- region 4
  refine TC.region ?_
  refine TL.vE (Val.move 1 rfl rfl) ?_
  refine TL.vE (Val.move 1 rfl rfl) ?_
  refine TL.drawP (yes_none rfl) rfl rfl rfl rfl rfl (K := 5) rfl (by first | exact .inl rfl | exact .inr ⟨rfl, by decide, rfl⟩) (by first | assumption | omega) (by repeat first | exact .nil | refine SnapsD.cons .cur ?_ | refine SnapsD.cons (.ro _) ?_ | refine SnapsD.cons (.aggRo _) ?_ | refine SnapsD.cons (.ref _ _ rfl (by first | assumption | exact whole_map _ _ (fun w c hc => by simp only [D.row, List.mem_cons, List.not_mem_nil, or_false] at hc; subst hc; exact .v _)) (by decide)) ?_) (spec_l37Act_c hby hn) (fun x => ⟨_, rfl⟩) (fun x i' h' => by simp only [St.curC, cur3, refP, pinK, pinB]; simp only [nrm, Nat.reduceBEq, Nat.reduceBNe, reduceIte]; rfl) fun x13 ci13 ch13 hp13 hci13 => ?_
  refine TL.cF ((spec_ActLine_f x13).k) ?_
  refine TL.drawP (yes_none rfl) rfl rfl rfl rfl rfl (K := 5) rfl (by first | exact .inl rfl | exact .inr ⟨rfl, by decide, rfl⟩) (by first | assumption | omega) (by repeat first | exact .nil | refine SnapsD.cons .cur ?_ | refine SnapsD.cons (.ro _) ?_ | refine SnapsD.cons (.aggRo _) ?_ | refine SnapsD.cons (.ref _ _ rfl (by first | assumption | exact whole_map _ _ (fun w c hc => by simp only [D.row, List.mem_cons, List.not_mem_nil, or_false] at hc; subst hc; exact .v _)) (by decide)) ?_) (spec_l37Bent_c hby hn (actLine x13) (by have := actLine_small x13; omega)) (fun x => ⟨_, rfl⟩) (fun x i' h' => by simp only [St.curC, cur3, refP, pinK, pinB]; simp only [nrm, Nat.reduceBEq, Nat.reduceBNe, reduceIte]; rfl) fun x15 ci15 ch15 hp15 hci15 => ?_
  refine TL.vE (Val.assign 1 rfl rfl) ?_
  refine TL.nil ?_
  show TC _ _ _ _ _ _
  refine TC.ret ?_
  exact ⟨.inr rfl, [_], [_], _, rfl, by decide, rfl, by simp [refV, refC, valC], rfl, ⟨_, trivial, rfl⟩⟩

-- loop.example/g00975/spec.DrawReadIns: params ['[]uint8'] results ['string'] ('arr', [('app', 'Go.ResultVar.tmp', ['2'])])
theorem spec_DrawReadIns_f (ds : List D) (hby : isBytes ds) (hn : ds.length ≤ 1048576) : Fun Tryd.prog 34 [L 1 ds] (RDr S (fun _ => True)) := by
  refine Fun.of Tryd.func34 rfl (by simp [Tryd.ntmps34]) fun w g0 => ?_
  simp only [Tryd.ntmps34, List.length_cons, List.length_nil, Nat.reduceAdd, Nat.reduceSub, List.replicate, List.cons_append, List.nil_append]
  refine TC.seq ?_
  -- region 0
  refine TC.region ?_
  refine TL.vE (Val.assign 1 rfl rfl) ?_
  refine TL.nil ?_
  show TC _ _ _ _ _ _
  refine TC.seq ?_
  -- region 1
  refine TC.region ?_
  refine TL.vE (Val.move 1 rfl rfl) ?_
  refine TL.newCur (yes_none rfl) rfl rfl hby hn rfl (by decide) fun ch0 => ?_
  simp only [curRow]
  simp only [nrm, Nat.reduceBEq, Nat.reduceBNe, reduceIte]
  refine TL.vE (Val.assign 1 rfl rfl) ?_
  refine TL.nil ?_
  show TC _ _ _ _ _ _
  refine TC.seq ?_
  refine TC.seq ?_
  -- region 2
  refine TC.region ?_
  refine TL.vE (Val.move 1 rfl rfl) ?_
  refine TL.drawP (yes_none rfl) rfl rfl rfl rfl rfl (K := 5) rfl (by first | exact .inl rfl | exact .inr ⟨rfl, by decide, rfl⟩) (by first | assumption | omega) (by repeat first | exact .nil | refine SnapsD.cons .cur ?_ | refine SnapsD.cons (.ro _) ?_ | refine SnapsD.cons (.aggRo _) ?_ | refine SnapsD.cons (.ref _ _ rfl (by first | assumption | exact whole_map _ _ (fun w c hc => by simp only [D.row, List.mem_cons, List.not_mem_nil, or_false] at hc; subst hc; exact .v _)) (by decide)) ?_) (spec_l01Once_c hby hn 5 (by decide)) (fun x => ⟨_, rfl⟩) (fun x i' h' => by simp only [St.curC, cur3, refP, pinK, pinB]; simp only [nrm, Nat.reduceBEq, Nat.reduceBNe, reduceIte]; rfl) fun x7 ci7 ch7 hp7 hci7 => ?_
  refine TL.nil ?_
  show TC _ _ _ _ _ _
  refine TC.cond rfl (fun hb => ?_) (fun hb => ?_)
  · have hk7 := hb
    refine TC.seq ?_
    -- region 3
    refine TC.region ?_
    refine TL.vE (Val.move 1 rfl rfl) ?_
    refine TL.opK rfl fun K hK => ?_
    refine OpT.buildP rfl rfl (xs := [(Go.Operand.const (Go.Value.string { data := #[] })), (Go.Operand.const (Go.Value.string { data := #[104, 97, 108, 116] })), (Go.Operand.const (Go.Value.string { data := #[104, 97, 108, 116, 32, 48] })), (Go.Operand.const (Go.Value.string { data := #[104, 97, 108, 116, 32, 49] })), (Go.Operand.const (Go.Value.string { data := #[108, 111, 97, 100, 32, 49, 54] })), (Go.Operand.const (Go.Value.string { data := #[106, 117, 109, 112, 32, 49, 50] })), (Go.Operand.const (Go.Value.string { data := #[115, 101, 116, 32, 49, 48, 48] })), (Go.Operand.const (Go.Value.string { data := #[119, 97, 108, 107, 32, 49] }))]) rfl rfl rfl rfl (sz := 1) rfl rfl rfl (by decide) (by decide) ?_ -- 9
    simp only [nrm, Nat.reduceBEq, Nat.reduceBNe, reduceIte]
    refine hK _ ?_
    clear hK K
    refine TL.drawP (yes_none rfl) rfl rfl rfl rfl rfl (K := 5) rfl (by first | exact .inl rfl | exact .inr ⟨rfl, by decide, rfl⟩) (by first | assumption | omega) (by repeat first | exact .nil | refine SnapsD.cons .cur ?_ | refine SnapsD.cons (.ro _) ?_ | refine SnapsD.cons (.aggRo _) ?_ | refine SnapsD.cons (.ref _ _ rfl (by first | assumption | exact whole_map _ _ (fun w c hc => by simp only [D.row, List.mem_cons, List.not_mem_nil, or_false] at hc; subst hc; exact .v _)) (by decide)) ?_) (spec_l01Pick_c hby hn [⟨#[]⟩, ⟨#[104, 97, 108, 116]⟩, ⟨#[104, 97, 108, 116, 32, 48]⟩, ⟨#[104, 97, 108, 116, 32, 49]⟩, ⟨#[108, 111, 97, 100, 32, 49, 54]⟩, ⟨#[106, 117, 109, 112, 32, 49, 50]⟩, ⟨#[115, 101, 116, 32, 49, 48, 48]⟩, ⟨#[119, 97, 108, 107, 32, 49]⟩] (by decide) (by decide)) (fun x => ⟨_, rfl⟩) (fun x i' h' => by simp only [St.curC, cur3, refP, pinK, pinB]; simp only [nrm, Nat.reduceBEq, Nat.reduceBNe, reduceIte]; rfl) fun x10 ci10 ch10 hp10 hci10 => ?_
    refine TL.vE (Val.assign 1 rfl rfl) ?_
    refine TL.nil ?_
    show TC _ _ _ _ _ _
    refine TC.ret ?_
    exact ⟨.inr rfl, [_], [_], _, rfl, by decide, rfl, by simp [refV, refC, valC], rfl, ⟨_, trivial, rfl⟩⟩
  have hk7 := hb
  refine TC.skip ?_
  show TC _ _ _ _ _ _
  refine TC.seq ?_
  -- region 4
  refine TC.region ?_
  refine TL.vE (Val.move 1 rfl rfl) ?_
  refine TL.vE (Val.move 1 rfl rfl) ?_
  refine TL.drawP (yes_none rfl) rfl rfl rfl rfl rfl (K := 5) rfl (by first | exact .inl rfl | exact .inr ⟨rfl, by decide, rfl⟩) (by first | assumption | omega) (by repeat first | exact .nil | refine SnapsD.cons .cur ?_ | refine SnapsD.cons (.ro _) ?_ | refine SnapsD.cons (.aggRo _) ?_ | refine SnapsD.cons (.ref _ _ rfl (by first | assumption | exact whole_map _ _ (fun w c hc => by simp only [D.row, List.mem_cons, List.not_mem_nil, or_false] at hc; subst hc; exact .v _)) (by decide)) ?_) (spec_l10AnyIns_c hby hn) (fun x => ⟨_, rfl⟩) (fun x i' h' => by simp only [St.curC, cur3, refP, pinK, pinB]; simp only [nrm, Nat.reduceBEq, Nat.reduceBNe, reduceIte]; rfl) fun x13 ci13 ch13 hp13 hci13 => ?_
  refine TL.cF ((spec_InsLine_f x13).k) ?_
  refine TL.drawP (yes_none rfl) rfl rfl rfl rfl rfl (K := 5) rfl (by first | exact .inl rfl | exact .inr ⟨rfl, by decide, rfl⟩) (by first | assumption | omega) (by repeat first | exact .nil | refine SnapsD.cons .cur ?_ | refine SnapsD.cons (.ro _) ?_ | refine SnapsD.cons (.aggRo _) ?_ | refine SnapsD.cons (.ref _ _ rfl (by first | assumption | exact whole_map _ _ (fun w c hc => by simp only [D.row, List.mem_cons, List.not_mem_nil, or_false] at hc; subst hc; exact .v _)) (by decide)) ?_) (spec_l37Bent_c hby hn (insLine x13) (by have := insLine_small x13; omega)) (fun x => ⟨_, rfl⟩) (fun x i' h' => by simp only [St.curC, cur3, refP, pinK, pinB]; simp only [nrm, Nat.reduceBEq, Nat.reduceBNe, reduceIte]; rfl) fun x15 ci15 ch15 hp15 hci15 => ?_
  refine TL.vE (Val.assign 1 rfl rfl) ?_
  refine TL.nil ?_
  show TC _ _ _ _ _ _
  refine TC.ret ?_
  exact ⟨.inr rfl, [_], [_], _, rfl, by decide, rfl, by simp [refV, refC, valC], rfl, ⟨_, trivial, rfl⟩⟩
end Go.Proofs.YtdlpmcjpbcbbjaaDoor.T

