/- Instructions read from a line: the program's walk, and the law's own. PRINTED by gen.py out of spec_readins.py. -/
import Derived.Test.YtfbjcdhphhfpfaaGreatDoorT3p
import Derived.Test.YtfbjcdhphhfpfaaGreatDoorWqp
import Derived.Test.YtfbjcdhphhfpfaaGreatDoorWrp
namespace Go.Proofs.YtfbjcdhphhfpfaaGreatDoor.T
open Go
set_option linter.unusedVariables false
set_option linter.unusedSimpArgs false
set_option maxRecDepth 100000
set_option maxHeartbeats 1000000

theorem impl_ReadIns_f (s : ByteArray) : FunW (TabE) Tryz.prog 35 [S s] (RIns (readIns s)) := by
  refine FunW.of (TabE.keep) Tryz.func35 rfl (by simp [Tryz.ntmps35]) fun w g0 hW => ?_
  simp only [Tryz.ntmps35, List.length_cons, List.length_nil, Nat.reduceAdd, Nat.reduceSub, List.replicate, List.cons_append, List.nil_append]
  obtain ⟨q, hq⟩ : ∃ q, parts s = q := ⟨_, rfl⟩
  refine TC.seq ?_
  refine TC.region ?_
  refine TL.opK rfl fun K hK => ?_
  refine OpT.alloc rfl rfl rfl rfl rfl rfl ?_
  simp only [nrm, Nat.reduceBEq, Nat.reduceBNe, reduceIte]
  refine hK _ ?_
  clear hK K
  refine TL.vE (Val.assign 1 rfl rfl) ?_
  refine TL.nil ?_
  show TC _ _ _ _ _ _
  refine TC.seq ?_
  refine TC.region ?_
  refine TL.vE (Val.move 1 rfl rfl) ?_
  refine TL.opK rfl fun K hK => ?_
  refine OpT.callG rfl rfl rfl rfl rfl rfl ((impl_PartsOf_q hq).k) (by repeat first | exact .nil | refine Snaps.cons (.ro _) ?_ | refine Snaps.cons (.aggRo rfl) ?_ | refine Snaps.cons (.cptr _) ?_ | refine Snaps.cons (.fn _) ?_ | refine Snaps.cons (.ownRef rfl (by first | assumption | exact whole_map _ _ (fun w c hc => by simp only [D.row, List.mem_cons, List.not_mem_nil, or_false] at hc; subst hc; exact .v _) | exact .sl _ _ (fun d hd c hc => by simp only [List.mem_cons, List.not_mem_nil, or_false] at hd; rcases hd with rfl | rfl <;> (simp only [D.row, List.mem_cons, List.not_mem_nil, or_false] at hc; subst hc; exact .v _)))) ?_ | refine Snaps.cons (.aggR (by repeat first | exact .nil | refine SnapCs.cons (.ro _) ?_ | refine SnapCs.cons (.ref rfl (by first | assumption | exact whole_map _ _ (fun w c hc => by simp only [D.row, List.mem_cons, List.not_mem_nil, or_false] at hc; subst hc; exact .v _) | exact .sl _ _ (fun d hd c hc => by simp only [List.mem_cons, List.not_mem_nil, or_false] at hd; rcases hd with rfl | rfl <;> (simp only [D.row, List.mem_cons, List.not_mem_nil, or_false] at hc; subst hc; exact .v _)))) ?_)) ?_) rfl ?_
  simp only [nrm, Nat.reduceBEq, Nat.reduceBNe, reduceIte]
  refine hK _ ?_
  clear hK K
  refine TL.vE (Val.move 1 rfl rfl) ?_
  refine TL.vE (Val.extract rfl rfl rfl) ?_
  refine TL.vE (Val.extract rfl rfl rfl) ?_
  refine TL.vE (Val.assign 1 rfl rfl) ?_
  refine TL.vE (Val.assign 1 rfl rfl) ?_
  refine TL.nil ?_
  show TC _ _ _ _ _ _
  refine TC.seq ?_
  refine TC.seq ?_
  refine TC.region ?_
  refine TL.vE (Val.move 1 rfl rfl) ?_
  refine TL.vE (Val.not rfl rfl) ?_
  refine TL.vE (Val.move 1 rfl rfl) ?_
  refine TL.splitG 2 rfl (fun hg2 => ?_) (fun hg2 => ?_)
  · iterate 3 (refine TL.skip (nope_b rfl rfl hg2) (by simp only [nput]; rfl) ?_)
    refine TL.vE (Val.pickT rfl rfl hg2 rfl) ?_
    refine TL.nil ?_
    show TC _ _ _ _ _ _
    refine TC.cond rfl (fun hb => ?_) (fun hb => absurd hb (by simp))
    refine TC.seq ?_
    have h0 : readIns s = none := readIns_none (by rintro a b e; rw [hq] at e; subst e; first | (simp at hg2; done) | (simp at hb; done))
    refine TC.region ?_
    refine TL.vE (Val.build (parts := []) (place := [(0, 1), (1, 1)]) rfl rfl rfl rfl rfl rfl rfl rfl rfl (by simp [fillC]; rfl)) ?_
    refine TL.opK rfl fun K hK => ?_
    refine OpT.storeAgg rfl rfl rfl rfl rfl rfl (by simp [St.store1, St.storeAll, St.cellAt, St.isMem, St.root, St.wrote, St.kill, St.setRoot, TS.kill, TV.kill, C.kill, Rt.kill, hitR, hitP, shapeOf, setRow, setAt, rowAt, D.row, D.reRow, List.isPrefixOf]; rfl) ?_ -- None
    simp only [nrm, Nat.reduceBEq, Nat.reduceBNe, reduceIte]
    refine hK _ ?_
    clear hK K
    refine TL.vE (Val.assign 1 rfl rfl) ?_
    refine TL.nil ?_
    show TC _ _ _ _ _ _
    refine TC.ret ?_
    exact ⟨.inr rfl, [_, _], [_, _], _, rfl, by decide, rfl, by simp [refV, refC, valC], rfl, (by simp only [RIns, h0]; rfl)⟩
  · refine TL.gE rfl hg2 (Val.move 1 rfl rfl) ?_
    refine TL.gE rfl hg2 (by first | exact Val.len rfl rfl rfl rfl | exact Val.lenS rfl rfl rfl) ?_
    refine TL.gE rfl hg2 (Val.neq rfl rfl rfl) ?_
    refine TL.vE (Val.pickF rfl rfl hg2 rfl) ?_
    refine TL.nil ?_
    show TC _ _ _ _ _ _
    refine TC.cond rfl (fun hb => ?_) (fun hb => ?_)
    · have hk21 := hb
      refine TC.seq ?_
      have h0 : readIns s = none := readIns_none (by rintro a b e; rw [hq] at e; subst e; first | (simp at hg2; done) | (simp at hb; done))
      refine TC.region ?_
      refine TL.vE (Val.build (parts := []) (place := [(0, 1), (1, 1)]) rfl rfl rfl rfl rfl rfl rfl rfl rfl (by simp [fillC]; rfl)) ?_
      refine TL.opK rfl fun K hK => ?_
      refine OpT.storeAgg rfl rfl rfl rfl rfl rfl (by simp [St.store1, St.storeAll, St.cellAt, St.isMem, St.root, St.wrote, St.kill, St.setRoot, TS.kill, TV.kill, C.kill, Rt.kill, hitR, hitP, shapeOf, setRow, setAt, rowAt, D.row, D.reRow, List.isPrefixOf]; rfl) ?_ -- None
      simp only [nrm, Nat.reduceBEq, Nat.reduceBNe, reduceIte]
      refine hK _ ?_
      clear hK K
      refine TL.vE (Val.assign 1 rfl rfl) ?_
      refine TL.nil ?_
      show TC _ _ _ _ _ _
      refine TC.ret ?_
      exact ⟨.inr rfl, [_, _], [_, _], _, rfl, by decide, rfl, by simp [refV, refC, valC], rfl, (by simp only [RIns, h0]; rfl)⟩
    have hk21 := hb
    refine TC.skip ?_
    show TC _ _ _ _ _ _
    refine TC.seq ?_
    obtain ⟨a, b, rfl⟩ : ∃ a b, q = some [a, b] := by rcases q with _ | (_ | ⟨a, _ | ⟨b, _ | ⟨c, l⟩⟩⟩) <;> simp at hb hg2 <;> first | exact ⟨_, _, rfl⟩ | omega
    have hps := parts_size hq
    have hin := opTo_in a 8
    have hnb := numOf_le b
    have hr2 := readIns_two hq
    refine TC.region ?_
    refine TL.vE (Val.move 1 rfl rfl) ?_
    refine TL.vE (by exact Val.index rfl rfl rfl rfl rfl rfl (by omega) (by simp)) ?_
    refine TL.ld ?_
    refine TL.opK rfl fun K hK => ?_
    refine OpT.callG rfl rfl rfl rfl rfl rfl ((impl_ReadDecimal_f b).k) (by repeat first | exact .nil | refine Snaps.cons (.ro _) ?_ | refine Snaps.cons (.aggRo rfl) ?_ | refine Snaps.cons (.cptr _) ?_ | refine Snaps.cons (.fn _) ?_ | refine Snaps.cons (.ownRef rfl (by first | assumption | exact whole_map _ _ (fun w c hc => by simp only [D.row, List.mem_cons, List.not_mem_nil, or_false] at hc; subst hc; exact .v _) | exact .sl _ _ (fun d hd c hc => by simp only [List.mem_cons, List.not_mem_nil, or_false] at hd; rcases hd with rfl | rfl <;> (simp only [D.row, List.mem_cons, List.not_mem_nil, or_false] at hc; subst hc; exact .v _)))) ?_ | refine Snaps.cons (.aggR (by repeat first | exact .nil | refine SnapCs.cons (.ro _) ?_ | refine SnapCs.cons (.ref rfl (by first | assumption | exact whole_map _ _ (fun w c hc => by simp only [D.row, List.mem_cons, List.not_mem_nil, or_false] at hc; subst hc; exact .v _) | exact .sl _ _ (fun d hd c hc => by simp only [List.mem_cons, List.not_mem_nil, or_false] at hd; rcases hd with rfl | rfl <;> (simp only [D.row, List.mem_cons, List.not_mem_nil, or_false] at hc; subst hc; exact .v _)))) ?_)) ?_) rfl ?_
    simp only [nrm, Nat.reduceBEq, Nat.reduceBNe, reduceIte]
    refine hK _ ?_
    clear hK K
    refine TL.vE (Val.move 1 rfl rfl) ?_
    refine TL.vE (Val.extract rfl rfl rfl) ?_
    refine TL.vE (Val.extract rfl rfl rfl) ?_
    refine TL.vE (Val.assign 1 rfl rfl) ?_
    refine TL.vE (Val.assign 1 rfl rfl) ?_
    refine TL.nil ?_
    show TC _ _ _ _ _ _
    refine TC.seq ?_
    refine TC.seq ?_
    refine TC.region ?_
    refine TL.vE (Val.assign 1 rfl rfl) ?_
    refine TL.nil ?_
    show TC _ _ _ _ _ _
    refine TC.block ?_
    refine TC.loop (fun μ st => ∃ k : Nat, (k ≤ 8 ∧ ∀ j : Nat, j < k → ¬ (opName ((j : Int) + 1) = a ∧ insOk ⟨(j : Int) + 1, numOf b⟩ = true)) ∧ μ = 8 - k ∧ Can st ⟨[.one .dead, .one .dead, .one (.ptr ⟨2, [], 0⟩), .one .dead, .one (.c (.ref ⟨12, [], 0⟩)), .one .dead, I (numOf b), B (readDec b).isSome, I (k + 1), .one .dead, .one .dead, .one .dead, .one .dead, .one .dead, .one .dead, .one .dead, .one .dead, .one .dead, .one .dead, .one .dead, .one .dead, .one .dead, .one .dead, .one .dead, .one .dead, .one .dead, .one .dead, .one .dead, .one .dead, .one .dead, .one .dead, .one .dead, .one .dead, .one .dead, .one .dead, .one .dead, .one .dead, .one .dead, .one .dead, .one .dead, .one .dead, .one .dead, .one .dead, .one .dead, .one .dead, .one .dead, .one .dead, .one .dead, .one .dead, .one .dead, .one .dead, .one .dead], [(12, ⟨false, [.own (.sl 1 [.v (.string a), .v (.string b)])]⟩), (2, ⟨true, [.own (.v (.int .i64 0)), .own (.v (.int .i64 0))]⟩)]⟩) (8) ?_ fun μ st hI => ?_
    · refine ⟨0, ⟨by omega, fun j hj => absurd hj (by omega)⟩, by simp, ?_⟩
      exact Can.too (.cons rfl rfl (.cons rfl rfl .nil))
    · obtain ⟨k, hyp, rfl, hcan⟩ := hI
      refine TC.can hcan ?_
      clear hcan
      refine TC.seq ?_
      refine TC.seq ?_
      refine TC.region ?_
      refine TL.vE (Val.move 1 rfl rfl) ?_
      refine TL.vE (Val.leq rfl rfl rfl) ?_
      refine TL.vE (Val.move 1 rfl rfl) ?_
      refine TL.splitG 2 rfl (fun hg2 => ?_) (fun hg2 => ?_)
      · refine TL.gE rfl hg2 (Val.move 1 rfl rfl) ?_
        refine TL.vE (Val.pickT rfl rfl hg2 rfl) ?_
        refine TL.nil ?_
        show TC _ _ _ _ _ _
        refine TC.cond rfl (fun hb => ?_) (fun hb => ?_)
        · have hk34 := hb
          refine TC.skip ?_
          show TC _ _ _ _ _ _
          refine TC.seq ?_
          refine TC.block ?_
          refine TC.seq ?_
          have hk1 : k + 1 ≤ 8 := by simp at hg2; omega
          have hsm : (readDec b).isSome = true := hb
          refine TC.region ?_
          refine TL.vE (Val.move 1 rfl rfl) ?_
          refine TL.vE (Val.move 1 rfl rfl) ?_
          refine TL.vE (Val.build (parts := [(0, (Go.Operand.tmp 37)), (1, (Go.Operand.tmp 38))]) (place := [(0, 1), (1, 1)]) rfl rfl rfl rfl rfl rfl rfl rfl rfl (by simp [fillC]; rfl)) ?_
          refine TL.opK rfl fun K hK => ?_
          refine OpT.alloc rfl rfl rfl rfl rfl rfl ?_
          simp only [nrm, Nat.reduceBEq, Nat.reduceBNe, reduceIte]
          refine hK _ ?_
          clear hK K
          refine TL.opK rfl fun K hK => ?_
          refine OpT.storeAgg rfl rfl rfl rfl rfl rfl (by simp [St.store1, St.storeAll, St.cellAt, St.isMem, St.root, St.wrote, St.kill, St.setRoot, TS.kill, TV.kill, C.kill, Rt.kill, hitR, hitP, shapeOf, setRow, setAt, rowAt, D.row, D.reRow, List.isPrefixOf]; rfl) ?_ -- None
          simp only [nrm, Nat.reduceBEq, Nat.reduceBNe, reduceIte]
          refine hK _ ?_
          clear hK K
          refine TL.nil ?_
          show TC _ _ _ _ _ _
          refine TC.seq ?_
          refine TC.regionQ rfl (by decide +kernel) ?_
          refine TQ.vE (Val.move 1 rfl rfl) ?_
          refine TQ.callF (yes_none rfl) rfl rfl rfl rfl rfl rfl ((impl_OpName_f (k + 1)).k) (by repeat first | exact .nil | refine Snaps.cons (.ro _) ?_ | refine Snaps.cons (.aggRo rfl) ?_ | refine Snaps.cons (.cptr _) ?_ | refine Snaps.cons (.fn _) ?_ | refine Snaps.cons (.ownRef rfl (by first | assumption | exact whole_map _ _ (fun w c hc => by simp only [D.row, List.mem_cons, List.not_mem_nil, or_false] at hc; subst hc; exact .v _) | exact .sl _ _ (fun d hd c hc => by simp only [List.mem_cons, List.not_mem_nil, or_false] at hd; rcases hd with rfl | rfl <;> (simp only [D.row, List.mem_cons, List.not_mem_nil, or_false] at hc; subst hc; exact .v _)))) ?_ | refine Snaps.cons (.aggR (by repeat first | exact .nil | refine SnapCs.cons (.ro _) ?_ | refine SnapCs.cons (.ref rfl (by first | assumption | exact whole_map _ _ (fun w c hc => by simp only [D.row, List.mem_cons, List.not_mem_nil, or_false] at hc; subst hc; exact .v _) | exact .sl _ _ (fun d hd c hc => by simp only [List.mem_cons, List.not_mem_nil, or_false] at hd; rcases hd with rfl | rfl <;> (simp only [D.row, List.mem_cons, List.not_mem_nil, or_false] at hc; subst hc; exact .v _)))) ?_)) ?_) rfl (by simp only [nput]; rfl) ?_
          refine TQ.vE (Val.move 1 rfl rfl) ?_
          refine TQ.vE (by exact Val.index rfl rfl rfl rfl rfl rfl (by omega) (by simp)) ?_
          refine TQ.valE rfl (by first | exact Val.load rfl rfl rfl rfl rfl | exact Val.loadC rfl rfl rfl) (by simp only [nput, valC]; rfl) ?_
          refine TQ.vE (Val.eqlS rfl rfl rfl) ?_
          refine TQ.vE (Val.move 1 rfl rfl) ?_
          refine TQ.splitG 6 rfl (fun hg6 => ?_) (fun hg6 => ?_)
          · refine TQ.guardE rfl rfl hg6 (by first | exact Val.loadCAgg (n := 2) rfl rfl rfl rfl (Nat.le_of_ble_eq_true rfl) | exact Val.loadAgg (n := 2) rfl rfl rfl rfl (by simp [St.cellsAt, St.cellAt, St.root, valC]; rfl) rfl | exact Val.loadAgg (n := 2) rfl rfl rfl rfl rfl rfl) (by simp only [St.put, List.set_cons_succ, List.set_cons_zero, valC, dIns, rIns, D.row, List.take_succ_cons, List.take_zero, List.map_cons, List.map_nil]; rfl) ?_
            refine TQ.callF (yes_some rfl rfl hg6) rfl rfl rfl rfl rfl rfl ((impl_InsOk_f ⟨(k : Int) + 1, numOf b⟩).k) (by repeat first | exact .nil | refine Snaps.cons (.ro _) ?_ | refine Snaps.cons (.aggRo rfl) ?_ | refine Snaps.cons (.cptr _) ?_ | refine Snaps.cons (.fn _) ?_ | refine Snaps.cons (.ownRef rfl (by first | assumption | exact whole_map _ _ (fun w c hc => by simp only [D.row, List.mem_cons, List.not_mem_nil, or_false] at hc; subst hc; exact .v _) | exact .sl _ _ (fun d hd c hc => by simp only [List.mem_cons, List.not_mem_nil, or_false] at hd; rcases hd with rfl | rfl <;> (simp only [D.row, List.mem_cons, List.not_mem_nil, or_false] at hc; subst hc; exact .v _)))) ?_ | refine Snaps.cons (.aggR (by repeat first | exact .nil | refine SnapCs.cons (.ro _) ?_ | refine SnapCs.cons (.ref rfl (by first | assumption | exact whole_map _ _ (fun w c hc => by simp only [D.row, List.mem_cons, List.not_mem_nil, or_false] at hc; subst hc; exact .v _) | exact .sl _ _ (fun d hd c hc => by simp only [List.mem_cons, List.not_mem_nil, or_false] at hd; rcases hd with rfl | rfl <;> (simp only [D.row, List.mem_cons, List.not_mem_nil, or_false] at hc; subst hc; exact .v _)))) ?_)) ?_) rfl (by simp only [nput]; rfl) ?_
            refine TQ.vE (Val.pickT rfl rfl hg6 rfl) ?_
            refine TQ.nil ?_
            show TC _ _ _ _ _ _
            refine TC.cond rfl (fun hb => ?_) (fun hb => ?_)
            · have hk49 := hb
              refine TC.seq ?_
              have hfo : opName ((k : Int) + 1) = a ∧ insOk ⟨(k : Int) + 1, numOf b⟩ = true := by rw [ba_beq] at hg6; simpa using ⟨by simpa using hg6, hb⟩
              have hop := opTo_name (op := (k : Int) + 1) (by omega) (by omega) hfo.1
              refine TC.region ?_
              refine TL.valE rfl (by first | exact Val.loadCAgg (n := 2) rfl rfl rfl rfl (Nat.le_of_ble_eq_true rfl) | exact Val.loadAgg (n := 2) rfl rfl rfl rfl (by simp [St.cellsAt, St.cellAt, St.root, valC]; rfl) rfl | exact Val.loadAgg (n := 2) rfl rfl rfl rfl rfl rfl) (by simp only [St.put, List.set_cons_succ, List.set_cons_zero, valC, dIns, rIns, D.row, List.take_succ_cons, List.take_zero, List.map_cons, List.map_nil]; rfl) ?_
              refine TL.opK rfl fun K hK => ?_
              refine OpT.storeAgg rfl rfl rfl rfl rfl rfl (by simp [St.store1, St.storeAll, St.cellAt, St.isMem, St.root, St.wrote, St.kill, St.setRoot, TS.kill, TV.kill, C.kill, Rt.kill, hitR, hitP, shapeOf, setRow, setAt, rowAt, D.row, D.reRow, List.isPrefixOf]; rfl) ?_ -- None
              simp only [nrm, Nat.reduceBEq, Nat.reduceBNe, reduceIte]
              refine hK _ ?_
              clear hK K
              refine TL.vE (Val.assign 1 rfl rfl) ?_
              refine TL.nil ?_
              show TC _ _ _ _ _ _
              refine TC.ret ?_
              exact ⟨.inr rfl, [_, _], [_, _], _, rfl, by decide, rfl, by simp [refV, refC, valC], rfl, (by rw [hop, if_pos ⟨hsm, hfo.2⟩] at hr2; simp only [RIns, hr2]; rfl)⟩
            have hk49 := hb
            refine TC.skip ?_
            show TC _ _ _ _ _ _
            refine TC.region ?_
            refine TL.vE (Val.move 1 rfl rfl) ?_
            refine TL.vE (Val.addO rfl rfl rfl) ?_
            refine TL.vE (Val.assign 1 rfl rfl) ?_
            refine TL.nil ?_
            first | refine Seq.normal ⟨_, ?_, k + 1, ?_, rfl, ?_⟩ | refine Seq.normal (Q := fun _ _ => True) ⟨_, ?_, k + 1, ?_, rfl, ?_⟩
            · omega
            · exact ⟨by omega, fun j hj => by (rcases Nat.lt_or_ge j k with h | h; · exact hyp.2 j h); · (obtain rfl : j = k := by omega); rintro ⟨h1, h2⟩; first | (rw [ba_beq] at hg6; simp [h1] at hg6; done) | simp [h2] at hb⟩
            · exact Can.too (.cons rfl rfl (.cons rfl rfl .nil))
          · iterate 2 (refine TQ.skip (nope_b rfl rfl hg6) (by simp only [nput]; rfl) ?_)
            refine TQ.vE (Val.pickF rfl rfl hg6 rfl) ?_
            refine TQ.nil ?_
            show TC _ _ _ _ _ _
            refine TC.cond rfl (fun hb => absurd hb (by simp)) (fun hb => ?_)
            refine TC.skip ?_
            show TC _ _ _ _ _ _
            refine TC.region ?_
            refine TL.vE (Val.move 1 rfl rfl) ?_
            refine TL.vE (Val.addO rfl rfl rfl) ?_
            refine TL.vE (Val.assign 1 rfl rfl) ?_
            refine TL.nil ?_
            first | refine Seq.normal ⟨_, ?_, k + 1, ?_, rfl, ?_⟩ | refine Seq.normal (Q := fun _ _ => True) ⟨_, ?_, k + 1, ?_, rfl, ?_⟩
            · omega
            · exact ⟨by omega, fun j hj => by (rcases Nat.lt_or_ge j k with h | h; · exact hyp.2 j h); · (obtain rfl : j = k := by omega); rintro ⟨h1, h2⟩; first | (rw [ba_beq] at hg6; simp [h1] at hg6; done) | simp [h2] at hb⟩
            · exact Can.too (.cons rfl rfl (.cons rfl rfl .nil))
        have hk34 := hb
        refine TC.exit ?_
        show TC _ _ _ _ _ _
        refine TC.seq ?_
        have h0 : readIns s = none := by (rw [hr2, if_neg]; rintro ⟨h1, h2⟩; have h3 := insOk_op h2; simp only at h3; first | (rw [h1] at hb; cases hb; done) | exact hyp.2 (opTo a 8 - 1).toNat (by simp at hg2; omega) (by rw [show (((opTo a 8 - 1).toNat : Nat) : Int) + 1 = opTo a 8 by omega]; exact ⟨(opTo_in a 8).2.2 (by omega), h2⟩))
        refine TC.region ?_
        refine TL.vE (Val.build (parts := []) (place := [(0, 1), (1, 1)]) rfl rfl rfl rfl rfl rfl rfl rfl rfl (by simp [fillC]; rfl)) ?_
        refine TL.opK rfl fun K hK => ?_
        refine OpT.storeAgg rfl rfl rfl rfl rfl rfl (by simp [St.store1, St.storeAll, St.cellAt, St.isMem, St.root, St.wrote, St.kill, St.setRoot, TS.kill, TV.kill, C.kill, Rt.kill, hitR, hitP, shapeOf, setRow, setAt, rowAt, D.row, D.reRow, List.isPrefixOf]; rfl) ?_ -- None
        simp only [nrm, Nat.reduceBEq, Nat.reduceBNe, reduceIte]
        refine hK _ ?_
        clear hK K
        refine TL.vE (Val.assign 1 rfl rfl) ?_
        refine TL.nil ?_
        show TC _ _ _ _ _ _
        refine TC.ret ?_
        exact ⟨.inr rfl, [_, _], [_, _], _, rfl, by decide, rfl, by simp [refV, refC, valC], rfl, (by simp only [RIns, h0]; rfl)⟩
      · refine TL.skip (nope_b rfl rfl hg2) (by simp only [nput]; rfl) ?_
        refine TL.vE (Val.pickF rfl rfl hg2 rfl) ?_
        refine TL.nil ?_
        show TC _ _ _ _ _ _
        refine TC.cond rfl (fun hb => absurd hb (by simp)) (fun hb => ?_)
        refine TC.exit ?_
        show TC _ _ _ _ _ _
        refine TC.seq ?_
        have h0 : readIns s = none := by (rw [hr2, if_neg]; rintro ⟨h1, h2⟩; have h3 := insOk_op h2; simp only at h3; first | (rw [h1] at hb; cases hb; done) | exact hyp.2 (opTo a 8 - 1).toNat (by simp at hg2; omega) (by rw [show (((opTo a 8 - 1).toNat : Nat) : Int) + 1 = opTo a 8 by omega]; exact ⟨(opTo_in a 8).2.2 (by omega), h2⟩))
        refine TC.region ?_
        refine TL.vE (Val.build (parts := []) (place := [(0, 1), (1, 1)]) rfl rfl rfl rfl rfl rfl rfl rfl rfl (by simp [fillC]; rfl)) ?_
        refine TL.opK rfl fun K hK => ?_
        refine OpT.storeAgg rfl rfl rfl rfl rfl rfl (by simp [St.store1, St.storeAll, St.cellAt, St.isMem, St.root, St.wrote, St.kill, St.setRoot, TS.kill, TV.kill, C.kill, Rt.kill, hitR, hitP, shapeOf, setRow, setAt, rowAt, D.row, D.reRow, List.isPrefixOf]; rfl) ?_ -- None
        simp only [nrm, Nat.reduceBEq, Nat.reduceBNe, reduceIte]
        refine hK _ ?_
        clear hK K
        refine TL.vE (Val.assign 1 rfl rfl) ?_
        refine TL.nil ?_
        show TC _ _ _ _ _ _
        refine TC.ret ?_
        exact ⟨.inr rfl, [_, _], [_, _], _, rfl, by decide, rfl, by simp [refV, refC, valC], rfl, (by simp only [RIns, h0]; rfl)⟩
end Go.Proofs.YtfbjcdhphhfpfaaGreatDoor.T

