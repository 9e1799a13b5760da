/- Actions read from a line: the reference's walk. PRINTED by gen.py out of spec_readact.py. -/
import Derived.Test.YtfbjcdhphhfpfaaGreatDoorT3p
import Derived.Test.YtfbjcdhphhfpfaaGreatDoorWip
import Derived.Test.YtfbjcdhphhfpfaaGreatDoorWop
import Derived.Test.YtfbjcdhphhfpfaaGreatDoorWqp
namespace Go.Proofs.YtfbjcdhphhfpfaaGreatDoor.T
open Go
set_option linter.unusedVariables false
set_option linter.unusedSimpArgs false
set_option maxRecDepth 100000
set_option maxHeartbeats 1000000

theorem spec_l37Num_g (ws : List ByteArray) (k : Nat) (n : Int) (hn : n = k) (hz : ws.length ≤ 12) : Fun Tryz.prog 26 [L 1 (ws.map fun w => .v (.string w)), I n] (RV (.int .i64 (numAt ws k))) := hn ▸ spec_l37Num_f ws k hz
theorem spec_ReadAct_f (s : ByteArray) : Fun Tryz.prog 11 [S s] (RAct (readAct s)) := by
  refine Fun.of Tryz.func11 rfl (by simp [Tryz.ntmps11]) fun w g0 => ?_
  simp only [Tryz.ntmps11, List.length_cons, List.length_nil, Nat.reduceAdd, Nat.reduceSub, List.replicate, List.cons_append, List.nil_append]
  obtain ⟨q, hq⟩ : ∃ q, parts s = q := ⟨_, rfl⟩
  refine TC.seq ?_
  refine TC.region ?_
  refine TL.opK rfl fun K hK => ?_
  refine OpT.alloc rfl rfl rfl rfl rfl rfl ?_
  simp only [nrm, Nat.reduceBEq, Nat.reduceBNe, reduceIte]
  refine hK _ ?_
  clear hK K
  refine TL.vE (Val.assign 1 rfl rfl) ?_
  refine TL.nil ?_
  show TC _ _ _ _ _ _
  refine TC.seq ?_
  refine TC.region ?_
  refine TL.vE (Val.move 1 rfl rfl) ?_
  refine TL.opK rfl fun K hK => ?_
  refine OpT.callG rfl rfl rfl rfl rfl rfl ((spec_PartsOf_q hq).k) (by repeat first | exact .nil | refine Snaps.cons (.ro _) ?_ | refine Snaps.cons (.aggRo rfl) ?_ | refine Snaps.cons (.cptr _) ?_ | refine Snaps.cons (.fn _) ?_ | refine Snaps.cons (.ownRef rfl (by first | assumption | exact whole_map _ _ (fun w c hc => by simp only [D.row, List.mem_cons, List.not_mem_nil, or_false] at hc; subst hc; exact .v _))) ?_ | refine Snaps.cons (.aggR (by repeat first | exact .nil | refine SnapCs.cons (.ro _) ?_ | refine SnapCs.cons (.ref rfl (by first | assumption | exact whole_map _ _ (fun w c hc => by simp only [D.row, List.mem_cons, List.not_mem_nil, or_false] at hc; subst hc; exact .v _))) ?_)) ?_) rfl ?_
  simp only [nrm, Nat.reduceBEq, Nat.reduceBNe, reduceIte]
  refine hK _ ?_
  clear hK K
  refine TL.vE (Val.move 1 rfl rfl) ?_
  refine TL.vE (Val.extract rfl rfl rfl) ?_
  refine TL.vE (Val.extract rfl rfl rfl) ?_
  refine TL.vE (Val.assign 1 rfl rfl) ?_
  refine TL.vE (Val.assign 1 rfl rfl) ?_
  refine TL.nil ?_
  show TC _ _ _ _ _ _
  refine TC.seq ?_
  refine TC.seq ?_
  refine TC.region ?_
  refine TL.vE (Val.move 1 rfl rfl) ?_
  refine TL.vE (Val.not rfl rfl) ?_
  refine TL.vE (Val.move 1 rfl rfl) ?_
  refine TL.splitG 2 rfl (fun hg2 => ?_) (fun hg2 => ?_)
  · iterate 3 (refine TL.skip (nope_b rfl rfl hg2) (by simp only [nput]; rfl) ?_)
    refine TL.vE (Val.pickT rfl rfl hg2 rfl) ?_
    refine TL.nil ?_
    show TC _ _ _ _ _ _
    refine TC.cond rfl (fun hb => ?_) (fun hb => absurd hb (by simp))
    refine TC.seq ?_
    have h0 : readAct s = none := readAct_none (by rintro a l e; rw [hq] at e; subst e; first | (simp at hg2; done) | (simp at hb; done) | (simp at hb; omega))
    refine TC.region ?_
    refine TL.vE (Val.build (parts := []) (place := [(0, 1), (1, 1), (2, 1), (3, 1), (4, 1), (5, 1)]) rfl rfl rfl rfl rfl rfl rfl rfl rfl (by simp [fillC]; rfl)) ?_
    refine TL.opK rfl fun K hK => ?_
    refine OpT.storeAgg rfl rfl rfl rfl rfl rfl (by simp [St.store1, St.storeAll, St.cellAt, St.isMem, St.root, St.wrote, St.kill, St.setRoot, TS.kill, TV.kill, C.kill, Rt.kill, hitR, hitP, shapeOf, setRow, setAt, rowAt, D.row, D.reRow, List.isPrefixOf]; rfl) ?_ -- None
    simp only [nrm, Nat.reduceBEq, Nat.reduceBNe, reduceIte]
    refine hK _ ?_
    clear hK K
    refine TL.vE (Val.assign 1 rfl rfl) ?_
    refine TL.nil ?_
    show TC _ _ _ _ _ _
    refine TC.ret ?_
    exact ⟨.inr rfl, [_, _], [_, _], _, rfl, by decide, rfl, by simp [refV, refC, valC], rfl, (by simp only [RAct, h0]; rfl)⟩
  · refine TL.gE rfl hg2 (Val.move 1 rfl rfl) ?_
    refine TL.gE rfl hg2 (by first | exact Val.len rfl rfl rfl rfl | exact Val.lenS rfl rfl rfl) ?_
    refine TL.gE rfl hg2 (Val.eql rfl rfl rfl) ?_
    refine TL.vE (Val.pickF rfl rfl hg2 rfl) ?_
    refine TL.nil ?_
    show TC _ _ _ _ _ _
    refine TC.cond rfl (fun hb => ?_) (fun hb => ?_)
    · have hk23 := hb
      refine TC.seq ?_
      have h0 : readAct s = none := readAct_none (by rintro a l e; rw [hq] at e; subst e; first | (simp at hg2; done) | (simp at hb; done) | (simp at hb; omega))
      refine TC.region ?_
      refine TL.vE (Val.build (parts := []) (place := [(0, 1), (1, 1), (2, 1), (3, 1), (4, 1), (5, 1)]) rfl rfl rfl rfl rfl rfl rfl rfl rfl (by simp [fillC]; rfl)) ?_
      refine TL.opK rfl fun K hK => ?_
      refine OpT.storeAgg rfl rfl rfl rfl rfl rfl (by simp [St.store1, St.storeAll, St.cellAt, St.isMem, St.root, St.wrote, St.kill, St.setRoot, TS.kill, TV.kill, C.kill, Rt.kill, hitR, hitP, shapeOf, setRow, setAt, rowAt, D.row, D.reRow, List.isPrefixOf]; rfl) ?_ -- None
      simp only [nrm, Nat.reduceBEq, Nat.reduceBNe, reduceIte]
      refine hK _ ?_
      clear hK K
      refine TL.vE (Val.assign 1 rfl rfl) ?_
      refine TL.nil ?_
      show TC _ _ _ _ _ _
      refine TC.ret ?_
      exact ⟨.inr rfl, [_, _], [_, _], _, rfl, by decide, rfl, by simp [refV, refC, valC], rfl, (by simp only [RAct, h0]; rfl)⟩
    have hk23 := hb
    refine TC.skip ?_
    show TC _ _ _ _ _ _
    refine TC.seq ?_
    obtain ⟨a, l, rfl⟩ : ∃ a l, q = some (a :: l) := by rcases q with _ | (_ | ⟨a, l⟩) <;> simp at hb hg2 <;> exact ⟨_, _, rfl⟩
    have hps := parts_size hq
    have hpw := (parts_word hq).2
    have hpl := (parts_word hq).1
    have hin := actTo_in a 17
    have hr2 := readAct_two hq
    have hlw : ∀ v ∈ l, ∀ c ∈ v.data.toList, c ≠ 32 := fun v hv => (hpw v (List.mem_cons_of_mem _ hv)).2
    have hus := uses_size
    refine TC.region ?_
    refine TL.vE (Val.build (parts := []) (place := [(0, 1), (1, 1), (2, 1), (3, 1), (4, 1), (5, 1)]) rfl rfl rfl rfl rfl rfl rfl rfl rfl (by simp [fillC]; rfl)) ?_
    refine TL.opK rfl fun K hK => ?_
    refine OpT.alloc rfl rfl rfl rfl rfl rfl ?_
    simp only [nrm, Nat.reduceBEq, Nat.reduceBNe, reduceIte]
    refine hK _ ?_
    clear hK K
    refine TL.opK rfl fun K hK => ?_
    refine OpT.storeAgg rfl rfl rfl rfl rfl rfl (by simp [St.store1, St.storeAll, St.cellAt, St.isMem, St.root, St.wrote, St.kill, St.setRoot, TS.kill, TV.kill, C.kill, Rt.kill, hitR, hitP, shapeOf, setRow, setAt, rowAt, D.row, D.reRow, List.isPrefixOf]; rfl) ?_ -- None
    simp only [nrm, Nat.reduceBEq, Nat.reduceBNe, reduceIte]
    refine hK _ ?_
    clear hK K
    refine TL.nil ?_
    show TC _ _ _ _ _ _
    refine TC.seq ?_
    refine TC.seq ?_
    refine TC.region ?_
    refine TL.vE (Val.assign 1 rfl rfl) ?_
    refine TL.nil ?_
    show TC _ _ _ _ _ _
    refine TC.block ?_
    refine TC.loop (fun μ st => ∃ k : Nat, (k ≤ 17) ∧ μ = 17 - k ∧ Can st ⟨[.one .dead, .one .dead, .one (.ptr ⟨2, [], 0⟩), .one .dead, .one (.c (.ref ⟨14, [], 0⟩)), .one .dead, .one (.ptr ⟨6, [], 0⟩), I (k + 1), .one .dead, .one .dead, .one .dead, .one .dead, .one .dead, .one .dead, .one .dead, .one .dead, .one .dead, .one .dead, .one .dead, .one .dead, .one .dead, .one .dead, .one .dead, .one .dead, .one .dead, .one .dead, .one .dead, .one .dead, .one .dead, .one .dead, .one .dead, .one .dead, .one .dead, .one .dead, .one .dead, .one .dead, .one .dead, .one .dead, .one .dead, .one .dead, .one .dead, .one .dead, .one .dead, .one .dead, .one .dead, .one .dead, .one .dead, .one .dead, .one .dead, .one .dead, .one .dead, .one .dead, .one .dead, .one .dead, .one .dead, .one .dead, .one .dead, .one .dead, .one .dead, .one .dead, .one .dead, .one .dead, .one .dead, .one .dead, .one .dead, .one .dead, .one .dead, .one .dead, .one .dead, .one .dead, .one .dead, .one .dead, .one .dead, .one .dead, .one .dead, .one .dead, .one .dead, .one .dead, .one .dead, .one .dead, .one .dead, .one .dead, .one .dead, .one .dead], [(6, ⟨true, [.own (.v (.int .i64 (⟨actTo a k, 0, 0, 0, 0, 0⟩ : VAct).Kind)), .own (.v (.int .i64 (⟨actTo a k, 0, 0, 0, 0, 0⟩ : VAct).M)), .own (.v (.int .i64 (⟨actTo a k, 0, 0, 0, 0, 0⟩ : VAct).G)), .own (.v (.int .i64 (⟨actTo a k, 0, 0, 0, 0, 0⟩ : VAct).X)), .own (.v (.int .i64 (⟨actTo a k, 0, 0, 0, 0, 0⟩ : VAct).Y)), .own (.v (.int .i64 (⟨actTo a k, 0, 0, 0, 0, 0⟩ : VAct).Z))]⟩), (14, ⟨false, [.own (.sl 1 ((a :: l).map fun w => .v (.string w)))]⟩), (2, ⟨true, [.own (.v (.int .i64 (⟨0, 0, 0, 0, 0, 0⟩ : VAct).Kind)), .own (.v (.int .i64 (⟨0, 0, 0, 0, 0, 0⟩ : VAct).M)), .own (.v (.int .i64 (⟨0, 0, 0, 0, 0, 0⟩ : VAct).G)), .own (.v (.int .i64 (⟨0, 0, 0, 0, 0, 0⟩ : VAct).X)), .own (.v (.int .i64 (⟨0, 0, 0, 0, 0, 0⟩ : VAct).Y)), .own (.v (.int .i64 (⟨0, 0, 0, 0, 0, 0⟩ : VAct).Z))]⟩)]⟩) (17) ?_ fun μ st hI => ?_
    · refine ⟨0, by simp, by simp, ?_⟩
      exact Can.too (.cons rfl rfl (.cons rfl rfl (.cons rfl rfl .nil)))
    · obtain ⟨k, hyp, rfl, hcan⟩ := hI
      refine TC.can hcan ?_
      clear hcan
      refine TC.seq ?_
      refine TC.seq ?_
      refine TC.region ?_
      refine TL.vE (Val.move 1 rfl rfl) ?_
      refine TL.vE (Val.leq rfl rfl rfl) ?_
      refine TL.nil ?_
      show TC _ _ _ _ _ _
      refine TC.cond rfl (fun hb => ?_) (fun hb => ?_)
      · have hk27 := hb
        refine TC.skip ?_
        show TC _ _ _ _ _ _
        refine TC.seq ?_
        refine TC.block ?_
        refine TC.seq ?_
        have hk1 : k + 1 ≤ 17 := by simp at hb; omega
        refine TC.regionQ rfl (by decide +kernel) ?_
        refine TQ.vE (Val.move 1 rfl rfl) ?_
        refine TQ.callF (yes_none rfl) rfl rfl rfl rfl rfl rfl ((spec_ActName_f (k + 1)).k) (by repeat first | exact .nil | refine Snaps.cons (.ro _) ?_ | refine Snaps.cons (.aggRo rfl) ?_ | refine Snaps.cons (.cptr _) ?_ | refine Snaps.cons (.fn _) ?_ | refine Snaps.cons (.ownRef rfl (by first | assumption | exact whole_map _ _ (fun w c hc => by simp only [D.row, List.mem_cons, List.not_mem_nil, or_false] at hc; subst hc; exact .v _))) ?_ | refine Snaps.cons (.aggR (by repeat first | exact .nil | refine SnapCs.cons (.ro _) ?_ | refine SnapCs.cons (.ref rfl (by first | assumption | exact whole_map _ _ (fun w c hc => by simp only [D.row, List.mem_cons, List.not_mem_nil, or_false] at hc; subst hc; exact .v _))) ?_)) ?_) rfl (by simp only [nput]; rfl) ?_
        refine TQ.vE (Val.move 1 rfl rfl) ?_
        refine TQ.vE (by exact Val.index rfl rfl rfl rfl rfl rfl (by omega) (by simp)) ?_
        refine TQ.valE rfl (by first | exact Val.load rfl rfl rfl rfl rfl | exact Val.loadC rfl rfl rfl) (by simp only [nput, valC]; rfl) ?_
        refine TQ.vE (Val.eqlS rfl rfl rfl) ?_
        refine TQ.nil ?_
        show TC _ _ _ _ _ _
        refine TC.cond rfl (fun hb => ?_) (fun hb => ?_)
        · have hk35 := hb
          refine TC.region ?_
          refine TL.vE (Val.move 1 rfl rfl) ?_
          refine TL.fld ?_
          refine TL.opK rfl fun K hK => ?_
          refine OpT.store (z := 1) rfl rfl rfl rfl rfl rfl (by simp [St.store1, St.storeAll, St.cellAt, St.isMem, St.root, St.wrote, St.kill, St.setRoot, TS.kill, TV.kill, C.kill, Rt.kill, hitR, hitP, shapeOf, setRow, setAt, rowAt, D.row, D.reRow, List.isPrefixOf]; rfl) ?_ -- None
          simp only [nrm, Nat.reduceBEq, Nat.reduceBNe, reduceIte]
          refine hK _ ?_
          clear hK K
          refine TL.nil ?_
          show TC _ _ _ _ _ _
          refine TC.region ?_
          refine TL.vE (Val.move 1 rfl rfl) ?_
          refine TL.vE (Val.addO rfl rfl rfl) ?_
          refine TL.vE (Val.assign 1 rfl rfl) ?_
          refine TL.nil ?_
          first | refine Seq.normal ⟨_, ?_, k + 1, ?_, rfl, ?_⟩ | refine Seq.normal (Q := fun _ _ => True) ⟨_, ?_, k + 1, ?_, rfl, ?_⟩
          · omega
          · omega
          · exact Can.too (.cons rfl (by rw [ba_beq] at hb; simp at hb; simp [actTo, hb]) (.cons rfl rfl (.cons rfl rfl .nil)))
        have hk35 := hb
        refine TC.skip ?_
        show TC _ _ _ _ _ _
        refine TC.region ?_
        refine TL.vE (Val.move 1 rfl rfl) ?_
        refine TL.vE (Val.addO rfl rfl rfl) ?_
        refine TL.vE (Val.assign 1 rfl rfl) ?_
        refine TL.nil ?_
        first | refine Seq.normal ⟨_, ?_, k + 1, ?_, rfl, ?_⟩ | refine Seq.normal (Q := fun _ _ => True) ⟨_, ?_, k + 1, ?_, rfl, ?_⟩
        · omega
        · omega
        · exact Can.too (.cons rfl (by rw [ba_beq] at hb; simp at hb; simp [actTo, hb]) (.cons rfl rfl (.cons rfl rfl .nil)))
      have hk27 := hb
      refine TC.exit ?_
      show TC _ _ _ _ _ _
      refine TC.seq ?_
      have hk8 : k = 17 := by simp at hb; omega
      subst hk8
      refine TC.region ?_
      refine TL.fld ?_
      refine TL.ld ?_
      refine TL.cF ((spec_ActUses_f (actTo a 17)).k) ?_
      refine TL.vE (Val.assign 1 rfl rfl) ?_
      refine TL.nil ?_
      show TC _ _ _ _ _ _
      refine TC.seq ?_
      refine TC.seq ?_
      refine TC.region ?_
      refine TL.vE (Val.assign 1 rfl rfl) ?_
      refine TL.nil ?_
      show TC _ _ _ _ _ _
      refine TC.block ?_
      refine TC.loop (fun μ st => ∃ j : Nat, (j ≤ (actUses (actTo a 17)).size) ∧ μ = (actUses (actTo a 17)).size - j ∧ Can st ⟨[.one .dead, .one .dead, .one (.ptr ⟨2, [], 0⟩), .one .dead, .one (.c (.ref ⟨14, [], 0⟩)), .one .dead, .one (.ptr ⟨6, [], 0⟩), .one .dead, S (actUses (actTo a 17)), I j, .one .dead, .one .dead, .one .dead, .one .dead, .one .dead, .one .dead, .one .dead, .one .dead, .one .dead, .one .dead, .one .dead, .one .dead, .one .dead, .one .dead, .one .dead, .one .dead, .one .dead, .one .dead, .one .dead, .one .dead, .one .dead, .one .dead, .one .dead, .one .dead, .one .dead, .one .dead, .one .dead, .one .dead, .one .dead, .one .dead, .one .dead, .one .dead, .one .dead, .one .dead, .one .dead, .one .dead, .one .dead, .one .dead, .one .dead, .one .dead, .one .dead, .one .dead, .one .dead, .one .dead, .one .dead, .one .dead, .one .dead, .one .dead, .one .dead, .one .dead, .one .dead, .one .dead, .one .dead, .one .dead, .one .dead, .one .dead, .one .dead, .one .dead, .one .dead, .one .dead, .one .dead, .one .dead, .one .dead, .one .dead, .one .dead, .one .dead, .one .dead, .one .dead, .one .dead, .one .dead, .one .dead, .one .dead, .one .dead, .one .dead], [(6, ⟨true, [.own (.v (.int .i64 (fillTo (actTo a 17) l j).Kind)), .own (.v (.int .i64 (fillTo (actTo a 17) l j).M)), .own (.v (.int .i64 (fillTo (actTo a 17) l j).G)), .own (.v (.int .i64 (fillTo (actTo a 17) l j).X)), .own (.v (.int .i64 (fillTo (actTo a 17) l j).Y)), .own (.v (.int .i64 (fillTo (actTo a 17) l j).Z))]⟩), (14, ⟨false, [.own (.sl 1 ((a :: l).map fun w => .v (.string w)))]⟩), (2, ⟨true, [.own (.v (.int .i64 (⟨0, 0, 0, 0, 0, 0⟩ : VAct).Kind)), .own (.v (.int .i64 (⟨0, 0, 0, 0, 0, 0⟩ : VAct).M)), .own (.v (.int .i64 (⟨0, 0, 0, 0, 0, 0⟩ : VAct).G)), .own (.v (.int .i64 (⟨0, 0, 0, 0, 0, 0⟩ : VAct).X)), .own (.v (.int .i64 (⟨0, 0, 0, 0, 0, 0⟩ : VAct).Y)), .own (.v (.int .i64 (⟨0, 0, 0, 0, 0, 0⟩ : VAct).Z))]⟩)]⟩) ((actUses (actTo a 17)).size) ?_ fun μ st hI => ?_
      · refine ⟨0, by simp, by simp, ?_⟩
        exact Can.too (.cons rfl rfl (.cons rfl rfl (.cons rfl rfl .nil)))
      · obtain ⟨j, hyp, rfl, hcan⟩ := hI
        refine TC.can hcan ?_
        clear hcan
        refine TC.seq ?_
        refine TC.seq ?_
        refine TC.region ?_
        refine TL.vE (Val.move 1 rfl rfl) ?_
        refine TL.vE (Val.move 1 rfl rfl) ?_
        refine TL.vE (by first | exact Val.len rfl rfl rfl rfl | exact Val.lenS rfl rfl rfl) ?_
        refine TL.vE (Val.lss rfl rfl rfl) ?_
        refine TL.nil ?_
        show TC _ _ _ _ _ _
        refine TC.cond rfl (fun hb => ?_) (fun hb => ?_)
        · have hk44 := hb
          refine TC.skip ?_
          show TC _ _ _ _ _ _
          refine TC.seq ?_
          refine TC.block ?_
          refine TC.seq ?_
          have hj : j < (actUses (actTo a 17)).size := by simp at hb; omega
          obtain ⟨c, hc0⟩ := byte_at (actUses (actTo a 17)) j
          have hc := hc0 hj
          have hft := fillTo_next (l := l) hc.2
          have hu5 := hus (actTo a 17)
          refine TC.region ?_
          refine TL.vE (Val.move 1 rfl rfl) ?_
          refine TL.vE (Val.move 1 rfl rfl) ?_
          refine TL.vE (Val.addO rfl rfl rfl) ?_
          refine TL.cF ((spec_l37Num_g (a :: l) (j + 1) (j + 1) (by omega) hpl).k) ?_
          refine TL.vE (Val.assign 1 rfl rfl) ?_
          refine TL.nil ?_
          show TC _ _ _ _ _ _
          refine TC.seq ?_
          refine TC.region ?_
          refine TL.vE (Val.move 1 rfl rfl) ?_
          refine TL.vE (Val.move 1 rfl rfl) ?_
          refine TL.vE (by exact Val.indexS rfl rfl rfl rfl (by omega) hc.1) ?_
          refine TL.nil ?_
          show TC _ _ _ _ _ _
          refine TC.block ?_
          refine TC.seq ?_
          refine TC.region ?_
          refine TL.vE (Val.eql rfl rfl rfl) ?_
          refine TL.vE (Val.assign 1 rfl rfl) ?_
          refine TL.nil ?_
          show TC _ _ _ _ _ _
          refine TC.cond rfl (fun hb => ?_) (fun hb => ?_)
          · have hk56 := hb
            refine TC.region ?_
            refine TL.vE (Val.move 1 rfl rfl) ?_
            refine TL.fld ?_
            refine TL.opK rfl fun K hK => ?_
            refine OpT.store (z := 1) rfl rfl rfl rfl rfl rfl (by simp [St.store1, St.storeAll, St.cellAt, St.isMem, St.root, St.wrote, St.kill, St.setRoot, TS.kill, TV.kill, C.kill, Rt.kill, hitR, hitP, shapeOf, setRow, setAt, rowAt, D.row, D.reRow, List.isPrefixOf]; rfl) ?_ -- None
            simp only [nrm, Nat.reduceBEq, Nat.reduceBNe, reduceIte]
            refine hK _ ?_
            clear hK K
            refine TL.nil ?_
            show TC _ _ _ _ _ _
            refine TC.region ?_
            refine TL.vE (Val.move 1 rfl rfl) ?_
            refine TL.vE (Val.addO rfl rfl rfl) ?_
            refine TL.vE (Val.assign 1 rfl rfl) ?_
            refine TL.nil ?_
            first | refine Seq.normal ⟨_, ?_, j + 1, ?_, rfl, ?_⟩ | refine Seq.normal (Q := fun _ _ => True) ⟨_, ?_, j + 1, ?_, rfl, ?_⟩
            · omega
            · omega
            · exact Can.too (.cons rfl (by rw [hft, setF_int]; simp_all [numAt_cons]) (.cons rfl rfl (.cons rfl rfl .nil)))
          have hk56 := hb
          refine TC.seq ?_
          refine TC.region ?_
          refine TL.vE (Val.eql rfl rfl rfl) ?_
          refine TL.vE (Val.assign 1 rfl rfl) ?_
          refine TL.nil ?_
          show TC _ _ _ _ _ _
          refine TC.cond rfl (fun hb => ?_) (fun hb => ?_)
          · have hk60 := hb
            refine TC.region ?_
            refine TL.vE (Val.move 1 rfl rfl) ?_
            refine TL.fld ?_
            refine TL.opK rfl fun K hK => ?_
            refine OpT.store (z := 1) rfl rfl rfl rfl rfl rfl (by simp [St.store1, St.storeAll, St.cellAt, St.isMem, St.root, St.wrote, St.kill, St.setRoot, TS.kill, TV.kill, C.kill, Rt.kill, hitR, hitP, shapeOf, setRow, setAt, rowAt, D.row, D.reRow, List.isPrefixOf]; rfl) ?_ -- None
            simp only [nrm, Nat.reduceBEq, Nat.reduceBNe, reduceIte]
            refine hK _ ?_
            clear hK K
            refine TL.nil ?_
            show TC _ _ _ _ _ _
            refine TC.region ?_
            refine TL.vE (Val.move 1 rfl rfl) ?_
            refine TL.vE (Val.addO rfl rfl rfl) ?_
            refine TL.vE (Val.assign 1 rfl rfl) ?_
            refine TL.nil ?_
            first | refine Seq.normal ⟨_, ?_, j + 1, ?_, rfl, ?_⟩ | refine Seq.normal (Q := fun _ _ => True) ⟨_, ?_, j + 1, ?_, rfl, ?_⟩
            · omega
            · omega
            · exact Can.too (.cons rfl (by rw [hft, setF_int]; simp_all [numAt_cons]) (.cons rfl rfl (.cons rfl rfl .nil)))
          have hk60 := hb
          refine TC.seq ?_
          refine TC.region ?_
          refine TL.vE (Val.eql rfl rfl rfl) ?_
          refine TL.vE (Val.assign 1 rfl rfl) ?_
          refine TL.nil ?_
          show TC _ _ _ _ _ _
          refine TC.cond rfl (fun hb => ?_) (fun hb => ?_)
          · have hk64 := hb
            refine TC.region ?_
            refine TL.vE (Val.move 1 rfl rfl) ?_
            refine TL.fld ?_
            refine TL.opK rfl fun K hK => ?_
            refine OpT.store (z := 1) rfl rfl rfl rfl rfl rfl (by simp [St.store1, St.storeAll, St.cellAt, St.isMem, St.root, St.wrote, St.kill, St.setRoot, TS.kill, TV.kill, C.kill, Rt.kill, hitR, hitP, shapeOf, setRow, setAt, rowAt, D.row, D.reRow, List.isPrefixOf]; rfl) ?_ -- None
            simp only [nrm, Nat.reduceBEq, Nat.reduceBNe, reduceIte]
            refine hK _ ?_
            clear hK K
            refine TL.nil ?_
            show TC _ _ _ _ _ _
            refine TC.region ?_
            refine TL.vE (Val.move 1 rfl rfl) ?_
            refine TL.vE (Val.addO rfl rfl rfl) ?_
            refine TL.vE (Val.assign 1 rfl rfl) ?_
            refine TL.nil ?_
            first | refine Seq.normal ⟨_, ?_, j + 1, ?_, rfl, ?_⟩ | refine Seq.normal (Q := fun _ _ => True) ⟨_, ?_, j + 1, ?_, rfl, ?_⟩
            · omega
            · omega
            · exact Can.too (.cons rfl (by rw [hft, setF_int]; simp_all [numAt_cons]) (.cons rfl rfl (.cons rfl rfl .nil)))
          have hk64 := hb
          refine TC.seq ?_
          refine TC.region ?_
          refine TL.vE (Val.eql rfl rfl rfl) ?_
          refine TL.vE (Val.assign 1 rfl rfl) ?_
          refine TL.nil ?_
          show TC _ _ _ _ _ _
          refine TC.cond rfl (fun hb => ?_) (fun hb => ?_)
          · have hk68 := hb
            refine TC.region ?_
            refine TL.vE (Val.move 1 rfl rfl) ?_
            refine TL.fld ?_
            refine TL.opK rfl fun K hK => ?_
            refine OpT.store (z := 1) rfl rfl rfl rfl rfl rfl (by simp [St.store1, St.storeAll, St.cellAt, St.isMem, St.root, St.wrote, St.kill, St.setRoot, TS.kill, TV.kill, C.kill, Rt.kill, hitR, hitP, shapeOf, setRow, setAt, rowAt, D.row, D.reRow, List.isPrefixOf]; rfl) ?_ -- None
            simp only [nrm, Nat.reduceBEq, Nat.reduceBNe, reduceIte]
            refine hK _ ?_
            clear hK K
            refine TL.nil ?_
            show TC _ _ _ _ _ _
            refine TC.region ?_
            refine TL.vE (Val.move 1 rfl rfl) ?_
            refine TL.vE (Val.addO rfl rfl rfl) ?_
            refine TL.vE (Val.assign 1 rfl rfl) ?_
            refine TL.nil ?_
            first | refine Seq.normal ⟨_, ?_, j + 1, ?_, rfl, ?_⟩ | refine Seq.normal (Q := fun _ _ => True) ⟨_, ?_, j + 1, ?_, rfl, ?_⟩
            · omega
            · omega
            · exact Can.too (.cons rfl (by rw [hft, setF_int]; simp_all [numAt_cons]) (.cons rfl rfl (.cons rfl rfl .nil)))
          have hk68 := hb
          refine TC.region ?_
          refine TL.vE (Val.move 1 rfl rfl) ?_
          refine TL.fld ?_
          refine TL.opK rfl fun K hK => ?_
          refine OpT.store (z := 1) rfl rfl rfl rfl rfl rfl (by simp [St.store1, St.storeAll, St.cellAt, St.isMem, St.root, St.wrote, St.kill, St.setRoot, TS.kill, TV.kill, C.kill, Rt.kill, hitR, hitP, shapeOf, setRow, setAt, rowAt, D.row, D.reRow, List.isPrefixOf]; rfl) ?_ -- None
          simp only [nrm, Nat.reduceBEq, Nat.reduceBNe, reduceIte]
          refine hK _ ?_
          clear hK K
          refine TL.nil ?_
          show TC _ _ _ _ _ _
          refine TC.region ?_
          refine TL.vE (Val.move 1 rfl rfl) ?_
          refine TL.vE (Val.addO rfl rfl rfl) ?_
          refine TL.vE (Val.assign 1 rfl rfl) ?_
          refine TL.nil ?_
          first | refine Seq.normal ⟨_, ?_, j + 1, ?_, rfl, ?_⟩ | refine Seq.normal (Q := fun _ _ => True) ⟨_, ?_, j + 1, ?_, rfl, ?_⟩
          · omega
          · omega
          · exact Can.too (.cons rfl (by rw [hft, setF_int]; simp_all [numAt_cons]) (.cons rfl rfl (.cons rfl rfl .nil)))
        have hk44 := hb
        refine TC.exit ?_
        show TC _ _ _ _ _ _
        refine TC.seq ?_
        have hjs : j = (actUses (actTo a 17)).size := by simp at hb; omega
        subst hjs
        refine TC.region ?_
        refine TL.valE rfl (by first | exact Val.loadCAgg (n := 6) rfl rfl rfl rfl (Nat.le_of_ble_eq_true rfl) | exact Val.loadAgg (n := 6) rfl rfl rfl rfl (by simp [St.cellsAt, St.cellAt, St.root, valC]; rfl) rfl | exact Val.loadAgg (n := 6) rfl rfl rfl rfl rfl rfl) (by simp only [St.put, List.set_cons_succ, List.set_cons_zero, valC, dAct, rAct, D.row, List.take_succ_cons, List.take_zero, List.map_cons, List.map_nil]; rfl) ?_
        refine TL.cF ((spec_ActLine_f (fillTo (actTo a 17) l (actUses (actTo a 17)).size)).k) ?_
        refine TL.vE (Val.assign 1 rfl rfl) ?_
        refine TL.nil ?_
        show TC _ _ _ _ _ _
        refine TC.seq ?_
        refine TC.seq ?_
        refine TC.region ?_
        refine TL.vE (Val.move 1 rfl rfl) ?_
        refine TL.vE (Val.eqlS rfl rfl rfl) ?_
        refine TL.vE (Val.move 1 rfl rfl) ?_
        refine TL.splitG 2 rfl (fun hg2 => ?_) (fun hg2 => ?_)
        · iterate 4 (refine TL.skip (nope_b rfl rfl hg2) (by simp only [nput]; rfl) ?_)
          refine TL.vE (Val.pickT rfl rfl hg2 rfl) ?_
          refine TL.nil ?_
          show TC _ _ _ _ _ _
          refine TC.cond rfl (fun hb => ?_) (fun hb => absurd hb (by simp))
          refine TC.seq ?_
          refine TC.region ?_
          refine TL.vE (Val.build (parts := []) (place := [(0, 1), (1, 1), (2, 1), (3, 1), (4, 1), (5, 1)]) rfl rfl rfl rfl rfl rfl rfl rfl rfl (by simp [fillC]; rfl)) ?_
          refine TL.opK rfl fun K hK => ?_
          refine OpT.storeAgg rfl rfl rfl rfl rfl rfl (by simp [St.store1, St.storeAll, St.cellAt, St.isMem, St.root, St.wrote, St.kill, St.setRoot, TS.kill, TV.kill, C.kill, Rt.kill, hitR, hitP, shapeOf, setRow, setAt, rowAt, D.row, D.reRow, List.isPrefixOf]; rfl) ?_ -- None
          simp only [nrm, Nat.reduceBEq, Nat.reduceBNe, reduceIte]
          refine hK _ ?_
          clear hK K
          refine TL.vE (Val.assign 1 rfl rfl) ?_
          refine TL.nil ?_
          show TC _ _ _ _ _ _
          refine TC.ret ?_
          exact ⟨.inr rfl, [_, _], [_, _], _, rfl, by decide, rfl, by simp [refV, refC, valC], rfl, (by have h0 : readAct s = none := (by rw [hr2, if_neg]; rintro ⟨h1, h2⟩; first | exact actLine_ne h1 (by rw [ba_beq] at hg2; simpa using hg2) | (have := (actLine_back hlw h1).2 h2; rw [ba_beq] at hb; simp [this] at hb)); simp only [RAct, h0]; rfl)⟩
        · refine TL.gE rfl hg2 (Val.move 1 rfl rfl) ?_
          refine TL.gE rfl hg2 (Val.move 1 rfl rfl) ?_
          refine TL.cF ((spec_l37Join_f (a :: l) hps hpl).k) ?_ (yes_some rfl rfl hg2)
          refine TL.gE rfl hg2 (Val.neqS rfl rfl rfl) ?_
          refine TL.vE (Val.pickF rfl rfl hg2 rfl) ?_
          refine TL.nil ?_
          show TC _ _ _ _ _ _
          refine TC.cond rfl (fun hb => ?_) (fun hb => ?_)
          · have hk81 := hb
            refine TC.seq ?_
            refine TC.region ?_
            refine TL.vE (Val.build (parts := []) (place := [(0, 1), (1, 1), (2, 1), (3, 1), (4, 1), (5, 1)]) rfl rfl rfl rfl rfl rfl rfl rfl rfl (by simp [fillC]; rfl)) ?_
            refine TL.opK rfl fun K hK => ?_
            refine OpT.storeAgg rfl rfl rfl rfl rfl rfl (by simp [St.store1, St.storeAll, St.cellAt, St.isMem, St.root, St.wrote, St.kill, St.setRoot, TS.kill, TV.kill, C.kill, Rt.kill, hitR, hitP, shapeOf, setRow, setAt, rowAt, D.row, D.reRow, List.isPrefixOf]; rfl) ?_ -- None
            simp only [nrm, Nat.reduceBEq, Nat.reduceBNe, reduceIte]
            refine hK _ ?_
            clear hK K
            refine TL.vE (Val.assign 1 rfl rfl) ?_
            refine TL.nil ?_
            show TC _ _ _ _ _ _
            refine TC.ret ?_
            exact ⟨.inr rfl, [_, _], [_, _], _, rfl, by decide, rfl, by simp [refV, refC, valC], rfl, (by have h0 : readAct s = none := (by rw [hr2, if_neg]; rintro ⟨h1, h2⟩; first | exact actLine_ne h1 (by rw [ba_beq] at hg2; simpa using hg2) | (have := (actLine_back hlw h1).2 h2; rw [ba_beq] at hb; simp [this] at hb)); simp only [RAct, h0]; rfl)⟩
          have hk81 := hb
          refine TC.skip ?_
          show TC _ _ _ _ _ _
          refine TC.seq ?_
          refine TC.region ?_
          refine TL.valE rfl (by first | exact Val.loadCAgg (n := 6) rfl rfl rfl rfl (Nat.le_of_ble_eq_true rfl) | exact Val.loadAgg (n := 6) rfl rfl rfl rfl (by simp [St.cellsAt, St.cellAt, St.root, valC]; rfl) rfl | exact Val.loadAgg (n := 6) rfl rfl rfl rfl rfl rfl) (by simp only [St.put, List.set_cons_succ, List.set_cons_zero, valC, dAct, rAct, D.row, List.take_succ_cons, List.take_zero, List.map_cons, List.map_nil]; rfl) ?_
          refine TL.opK rfl fun K hK => ?_
          refine OpT.storeAgg rfl rfl rfl rfl rfl rfl (by simp [St.store1, St.storeAll, St.cellAt, St.isMem, St.root, St.wrote, St.kill, St.setRoot, TS.kill, TV.kill, C.kill, Rt.kill, hitR, hitP, shapeOf, setRow, setAt, rowAt, D.row, D.reRow, List.isPrefixOf]; rfl) ?_ -- None
          simp only [nrm, Nat.reduceBEq, Nat.reduceBNe, reduceIte]
          refine hK _ ?_
          clear hK K
          refine TL.vE (Val.assign 1 rfl rfl) ?_
          refine TL.nil ?_
          show TC _ _ _ _ _ _
          refine TC.ret ?_
          exact ⟨.inr rfl, [_, _], [_, _], _, rfl, by decide, rfl, by simp [refV, refC, valC], rfl, (by have h1 : actTo a 17 ≠ 0 := (fun e => by rw [e, actLine_zero] at hg2; simp [ba_beq] at hg2); have h2 := (actLine_back hlw h1).1 (by rw [ba_beq] at hb; simpa using hb); rw [if_pos ⟨h1, h2⟩, h2.1] at hr2; simp only [RAct, hr2]; rfl)⟩
end Go.Proofs.YtfbjcdhphhfpfaaGreatDoor.T

