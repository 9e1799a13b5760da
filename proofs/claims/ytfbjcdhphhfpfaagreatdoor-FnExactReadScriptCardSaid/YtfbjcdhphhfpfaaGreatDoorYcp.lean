/- Scripts read: the program's ReadScript. PRINTED by gen.py out of spec_script4.py. -/
import Derived.Test.YtfbjcdhphhfpfaaGreatDoorT3p
import Derived.Test.YtfbjcdhphhfpfaaGreatDoorYbp
namespace Go.Proofs.YtfbjcdhphhfpfaaGreatDoor.T
open Go
set_option linter.unusedVariables false
set_option linter.unusedSimpArgs false
set_option maxRecDepth 100000
set_option maxHeartbeats 1000000

theorem impl_ReadScript_f (s : ByteArray) : FunW (TabS) Tryz.prog 5 [S s] (RScr (readScript s)) := by
  refine FunW.of (TabS.keep) Tryz.func5 rfl (by simp [Tryz.ntmps5]) fun w g0 hW => ?_
  simp only [Tryz.ntmps5, List.length_cons, List.length_nil, Nat.reduceAdd, Nat.reduceSub, List.replicate, List.cons_append, List.nil_append]
  have hWE : ∀ w', Kept w g0 w' → TabE w' := fun w' h => (hW w' h).1
  have hWT : ∀ w', Kept w g0 w' → Tab w' := fun w' h => (hW w' h).1.1
  refine TC.seq ?_
  refine TC.region ?_
  refine TL.opK rfl fun K hK => ?_
  refine OpT.alloc rfl rfl rfl rfl rfl rfl ?_
  simp only [nrm, Nat.reduceBEq, Nat.reduceBNe, reduceIte]
  refine hK _ ?_
  clear hK K
  refine TL.vE (Val.assign 1 rfl rfl) ?_
  refine TL.nil ?_
  show TC _ _ _ _ _ _
  refine TC.seq ?_
  refine TC.seq ?_
  refine TC.region ?_
  refine TL.vE (Val.move 1 rfl rfl) ?_
  refine TL.vE (by first | exact Val.len rfl rfl rfl rfl | exact Val.lenS rfl rfl rfl) ?_
  refine TL.vE (Val.gtr rfl rfl rfl) ?_
  refine TL.nil ?_
  show TC _ _ _ _ _ _
  refine TC.cond rfl (fun hb => ?_) (fun hb => ?_)
  · have hk12 := hb
    refine TC.seq ?_
    have h0 : readScript s = (noScript, -1) := if_pos (by simp at hb; omega)
    refine TC.region ?_
    refine TL.opK rfl fun K hK => ?_
    refine OpT.buildN (parts := []) (place := [(0, 1), (1, 1)]) (row' := [.sl 1 [], .sl 6 []]) rfl rfl rfl rfl rfl rfl rfl rfl rfl rfl rfl (by simp [fillC, refsD, refD, nextD]; rfl) ?_
    simp only [nrm, Nat.reduceBEq, Nat.reduceBNe, reduceIte]
    refine hK _ ?_
    clear hK K
    refine TL.opK rfl fun K hK => ?_
    refine OpT.storeAgg rfl rfl rfl rfl rfl rfl (by simp [St.store1, St.storeAll, St.cellAt, St.isMem, St.root, St.wrote, St.kill, St.setRoot, TS.kill, TV.kill, C.kill, Rt.kill, hitR, hitP, shapeOf, setRow, setAt, rowAt, D.row, D.reRow, List.isPrefixOf]; rfl) ?_ -- None
    simp only [nrm, Nat.reduceBEq, Nat.reduceBNe, reduceIte]
    refine hK _ ?_
    clear hK K
    refine TL.vE (Val.assign 1 rfl rfl) ?_
    refine TL.nil ?_
    show TC _ _ _ _ _ _
    refine TC.ret ?_
    exact ⟨.inr rfl, [_, _], [_, _], _, rfl, by decide, rfl, by simp [refV, refC, valC, C.kill, hitR], rfl, (by simp only [RScr, h0]; rfl)⟩
  have hk12 := hb
  refine TC.skip ?_
  show TC _ _ _ _ _ _
  refine TC.seq ?_
  have hs0 : s.size ≤ 12000 := by simp at hb; omega
  have hlen := linesOf_len s
  have hrs : readScript s = readFrom (linesOf s) noScript 0 := if_neg (by omega)
  refine TC.region ?_
  refine TL.opK rfl fun K hK => ?_
  refine OpT.buildN (parts := []) (place := [(0, 1), (1, 1)]) (row' := [.sl 1 [], .sl 6 []]) rfl rfl rfl rfl rfl rfl rfl rfl rfl rfl rfl (by simp [fillC, refsD, refD, nextD]; rfl) ?_
  simp only [nrm, Nat.reduceBEq, Nat.reduceBNe, reduceIte]
  refine hK _ ?_
  clear hK K
  refine TL.opK rfl fun K hK => ?_
  refine OpT.alloc rfl rfl rfl rfl rfl rfl ?_
  simp only [nrm, Nat.reduceBEq, Nat.reduceBNe, reduceIte]
  refine hK _ ?_
  clear hK K
  refine TL.opK rfl fun K hK => ?_
  refine OpT.storeAgg rfl rfl rfl rfl rfl rfl (by simp [St.store1, St.storeAll, St.cellAt, St.isMem, St.root, St.wrote, St.kill, St.setRoot, TS.kill, TV.kill, C.kill, Rt.kill, hitR, hitP, shapeOf, setRow, setAt, rowAt, D.row, D.reRow, List.isPrefixOf]; rfl) ?_ -- None
  simp only [nrm, Nat.reduceBEq, Nat.reduceBNe, reduceIte]
  refine hK _ ?_
  clear hK K
  refine TL.nil ?_
  show TC _ _ _ _ _ _
  refine TC.seq ?_
  refine TC.region ?_
  refine TL.vE (Val.move 1 rfl rfl) ?_
  refine TL.opK rfl fun K hK => ?_
  refine OpT.callL rfl rfl rfl rfl rfl rfl ((split_f s hs0).k) (by repeat first | exact .nil | refine Snaps.cons (.ro _) ?_ | refine Snaps.cons (.aggRo rfl) ?_ | refine Snaps.cons (.cptr _) ?_ | refine Snaps.cons (.fn _) ?_ | refine Snaps.cons (.ownRef rfl (by first | assumption | exact w_InsS _ | exact w_InsSS _ | exact w_InsSSS _ | exact w_ActS _ | exact whole_map _ _ (fun w c hc => by simp only [D.row, List.mem_cons, List.not_mem_nil, or_false] at hc; subst hc; exact .v _))) ?_ | refine Snaps.cons (.aggR (by repeat first | exact .nil | refine SnapCs.cons (.ro _) ?_ | refine SnapCs.cons (.ref rfl (by first | assumption | exact w_InsS _ | exact w_InsSS _ | exact w_InsSSS _ | exact w_ActS _ | exact whole_map _ _ (fun w c hc => by simp only [D.row, List.mem_cons, List.not_mem_nil, or_false] at hc; subst hc; exact .v _))) ?_)) ?_) ?_
  simp only [nrm, Nat.reduceBEq, Nat.reduceBNe, reduceIte]
  refine hK _ ?_
  clear hK K
  refine TL.vE (Val.assign 1 rfl rfl) ?_
  refine TL.nil ?_
  show TC _ _ _ _ _ _
  refine TC.seq ?_
  refine TC.seq ?_
  refine TC.region ?_
  refine TL.vE (Val.move 1 rfl rfl) ?_
  refine TL.vE (by first | exact Val.len rfl rfl rfl rfl | exact Val.lenS rfl rfl rfl) ?_
  refine TL.vE (Val.move 1 rfl rfl) ?_
  refine TL.nil ?_
  show TC _ _ _ _ _ _
  refine TC.block ?_
  refine TC.loop (fun μ st => ∃ (k : Nat) (sc : VScript), (k ≤ (linesOf s).length ∧ Small sc ∧ readScript s = readFrom ((linesOf s).drop k) sc k) ∧ μ = (linesOf s).length - k ∧ Can st ⟨[.one .dead, .one .dead, .one (.ptr ⟨2, [], 0⟩), .one .dead, .one (.ptr ⟨4, [], 0⟩), .one (.c (.ref ⟨16, [], 0⟩)), .one .dead, .one .dead, .one .dead, .one .dead, .one .dead, .one .dead, .one .dead, .one .dead, .one .dead, .one .dead, .one .dead, .one (.c (.ref ⟨16, [], 0⟩)), I ((linesOf s).map (fun w => .v (.string w) : ByteArray → D)).length, I k, .one .dead, .one .dead, .one .dead, .one .dead, .one .dead, .one .dead, .one .dead, .one .dead, .one .dead, .one .dead, .one .dead, .one .dead, .one .dead, .one .dead, .one .dead, .one .dead, .one .dead, .one .dead, .one .dead, .one .dead, .one .dead, .one .dead, .one .dead, .one .dead, .one .dead, .one .dead, .one .dead, .one .dead, .one .dead, .one .dead, .one .dead, .one .dead, .one .dead, .one .dead, .one .dead, .one .dead, .one .dead, .one .dead, .one .dead, .one .dead, .one .dead, .one .dead], [(4, ⟨true, [.own (.sl 1 (sc.All.map dInsSS)), .own (.sl 6 (sc.Acts.map dAct))]⟩), (16, ⟨false, [.own (.sl 1 ((linesOf s).map fun w => .v (.string w)))]⟩), (2, ⟨true, [.own (.sl 1 []), .own (.sl 6 [])]⟩)]⟩) ((linesOf s).length) ?_ fun μ st hI => ?_
  · refine ⟨0, noScript, ⟨by omega, small_no, by rw [hrs]; rfl⟩, by simp, ?_⟩
    exact Can.too (.cons rfl rfl (.cons rfl rfl (.cons rfl rfl .nil)))
  · obtain ⟨k, sc, hyp, rfl, hcan⟩ := hI
    refine TC.can hcan ?_
    clear hcan
    refine TC.seq ?_
    refine TC.region ?_
    refine TL.vE (Val.lss rfl rfl rfl) ?_
    refine TL.nil ?_
    show TC _ _ _ _ _ _
    refine TC.seq ?_
    refine TC.cond rfl (fun hb => ?_) (fun hb => ?_)
    · have hk20 := hb
      refine TC.skip ?_
      show TC _ _ _ _ _ _
      refine TC.seq ?_
      refine TC.block ?_
      refine TC.seq ?_
      have hk : k < (linesOf s).length := by simp at hb; omega
      obtain ⟨l, hl⟩ := at_of (xs := linesOf s) (k := k) hk
      refine TC.region ?_
      refine TL.vE (Val.move 1 rfl rfl) ?_
      refine TL.vE (by exact Val.index rfl rfl rfl rfl rfl rfl (by omega) (by simp; omega)) ?_
      refine TL.valE rfl (by exact Val.load rfl rfl rfl (by simp [St.cellAt, St.root, rowAt, setRow, setAt, D.row, D.reRow, listOf, List.getElem?_set_self', List.set_set, hl]; first | rfl | exact ⟨rfl, rfl⟩) rfl) (by simp only [nput, valC]; rfl) ?_
      refine TL.vE (Val.assign 1 rfl rfl) ?_
      refine TL.vE (Val.assign 1 rfl rfl) ?_
      refine TL.nil ?_
      show TC _ _ _ _ _ _
      refine TC.seq ?_
      obtain ⟨q, hq⟩ : ∃ q, parts l = q := ⟨_, rfl⟩
      refine TC.region ?_
      refine TL.vE (Val.move 1 rfl rfl) ?_
      refine TL.opK rfl fun K hK => ?_
      refine OpT.callG rfl rfl rfl rfl rfl rfl ((impl_PartsOf_q hq).k) (by repeat first | exact .nil | refine Snaps.cons (.ro _) ?_ | refine Snaps.cons (.aggRo rfl) ?_ | refine Snaps.cons (.cptr _) ?_ | refine Snaps.cons (.fn _) ?_ | refine Snaps.cons (.ownRef rfl (by first | assumption | exact w_InsS _ | exact w_InsSS _ | exact w_InsSSS _ | exact w_ActS _ | exact whole_map _ _ (fun w c hc => by simp only [D.row, List.mem_cons, List.not_mem_nil, or_false] at hc; subst hc; exact .v _))) ?_ | refine Snaps.cons (.aggR (by repeat first | exact .nil | refine SnapCs.cons (.ro _) ?_ | refine SnapCs.cons (.ref rfl (by first | assumption | exact w_InsS _ | exact w_InsSS _ | exact w_InsSSS _ | exact w_ActS _ | exact whole_map _ _ (fun w c hc => by simp only [D.row, List.mem_cons, List.not_mem_nil, or_false] at hc; subst hc; exact .v _))) ?_)) ?_) rfl ?_
      simp only [nrm, Nat.reduceBEq, Nat.reduceBNe, reduceIte]
      refine hK _ ?_
      clear hK K
      refine TL.vE (Val.move 1 rfl rfl) ?_
      refine TL.vE (Val.extract rfl rfl rfl) ?_
      refine TL.vE (Val.extract rfl rfl rfl) ?_
      refine TL.vE (Val.assign 1 rfl rfl) ?_
      refine TL.vE (Val.assign 1 rfl rfl) ?_
      refine TL.nil ?_
      show TC _ _ _ _ _ _
      refine TC.seq ?_
      refine TC.seq ?_
      refine TC.region ?_
      refine TL.vE (Val.move 1 rfl rfl) ?_
      refine TL.vE (Val.move 1 rfl rfl) ?_
      refine TL.splitG 1 rfl (fun hg1 => ?_) (fun hg1 => ?_)
      · refine TL.gE rfl hg1 (Val.move 1 rfl rfl) ?_
        refine TL.gE rfl hg1 (by first | exact Val.len rfl rfl rfl rfl | exact Val.lenS rfl rfl rfl) ?_
        refine TL.gE rfl hg1 (Val.eql rfl rfl rfl) ?_
        refine TL.gE rfl hg1 (Val.move 1 rfl rfl) ?_
        refine TL.splitG 5 rfl (fun hg5 => ?_) (fun hg5 => ?_)
        · iterate 5 (refine TL.skip (nope_b rfl rfl hg5) (by simp only [nput]; rfl) ?_)
          refine TL.gE rfl hg1 (Val.pickT rfl rfl hg5 rfl) ?_
          refine TL.vE (Val.pickT rfl rfl hg1 rfl) ?_
          refine TL.nil ?_
          show TC _ _ _ _ _ _
          refine TC.cond rfl (fun hb => ?_) (fun hb => absurd hb (by simp))
          refine TC.exit ?_
          show TC _ _ _ _ _ _
          refine TC.region ?_
          refine TL.vE (Val.addO rfl rfl rfl) ?_
          refine TL.vE (Val.move 1 rfl rfl) ?_
          refine TL.nil ?_
          first
          | (first | refine Seq.normal ⟨_, ?_, k + 1, sc, ?_, rfl, ?_⟩ | refine Seq.normal (Q := fun _ _ => True) ⟨_, ?_, k + 1, sc, ?_, rfl, ?_⟩
             · omega
             · (refine ⟨by omega, hyp.2.1, hyp.2.2.trans (read_skip hl (ws := []) ?_ rfl)⟩; rw [hq]; rcases q with _ | (_ | _) <;> (try simp at hg1 hg5) <;> first | rfl | omega)
             · exact Can.too (.cons rfl rfl (.cons rfl rfl (.cons rfl rfl .nil))))
          | (first | refine Seq.normal ⟨_, ?_, k + 1, sc, ?_, rfl, ?_⟩ | refine Seq.normal (Q := fun _ _ => True) ⟨_, ?_, k + 1, sc, ?_, rfl, ?_⟩
             · omega
             · (refine ⟨by omega, hyp.2.1, hyp.2.2.trans (read_skip hl (hq.trans hwq) ?_)⟩; have h35 : (c.toNat : Int) = 35 := (by simpa using hb); have h36 : c = 35 := UInt8.toNat_inj.1 (by rw [show (35 : UInt8).toNat = 35 from rfl]; omega); show decide (w0.data.toList[0]? = some 35) = true; rw [hc.2, h36]; rfl)
             · exact Can.too (.cons rfl rfl (.cons rfl rfl (.cons rfl rfl .nil))))
          | (first | refine Seq.normal ⟨_, ?_, k + 1, (accept sc l (q.getD [])).1, ?_, rfl, ?_⟩ | refine Seq.normal (Q := fun _ _ => True) ⟨_, ?_, k + 1, (accept sc l (q.getD [])).1, ?_, rfl, ?_⟩
             · omega
             · (cases hqe : q with | none => (rw [hqe] at hg2; simp at hg2) | some ws => (rw [hqe] at hb; exact ⟨by omega, small_accept hyp.2.1 (by simpa using hb), by rw [hyp.2.2]; exact read_take hl (hq.trans hqe) (hns _ hqe) (by simpa using hb)⟩))
             · exact Can.too (.cons rfl rfl (.cons rfl rfl (.cons rfl rfl .nil))))
        · obtain ⟨w0, wr, hwq⟩ : ∃ w0 wr, q = some (w0 :: wr) := by rcases q with _ | (_ | ⟨a, b⟩) <;> simp at hg1 hg5 <;> exact ⟨_, _, rfl⟩
          have hpw := (parts_word (hq.trans hwq)).2 w0 List.mem_cons_self
          obtain ⟨c, hc0⟩ := byte_at w0 0
          have hc := hc0 (by have := hpw.1; omega)
          refine TL.gE rfl hg5 (Val.move 1 rfl rfl) ?_
          refine TL.gE rfl hg5 (by exact Val.index rfl rfl rfl rfl rfl rfl (by omega) (by rw [hwq]; simp)) ?_
          refine TL.guardE rfl rfl hg5 (by exact Val.load rfl rfl rfl (by simp [St.cellAt, St.root, rowAt, setRow, setAt, D.row, D.reRow, listOf, List.getElem?_set_self', List.set_set, hwq]; first | rfl | exact ⟨rfl, rfl⟩) rfl) (by simp only [nput, valC]; rfl) ?_
          refine TL.gE rfl hg5 (by exact Val.indexS rfl rfl rfl rfl (by omega) hc.1) ?_
          refine TL.gE rfl hg5 (Val.eql rfl rfl rfl) ?_
          refine TL.gE rfl hg1 (Val.pickF rfl rfl hg5 rfl) ?_
          refine TL.vE (Val.pickT rfl rfl hg1 rfl) ?_
          refine TL.nil ?_
          show TC _ _ _ _ _ _
          refine TC.cond rfl (fun hb => ?_) (fun hb => ?_)
          · have hk41 := hb
            refine TC.exit ?_
            show TC _ _ _ _ _ _
            refine TC.region ?_
            refine TL.vE (Val.addO rfl rfl rfl) ?_
            refine TL.vE (Val.move 1 rfl rfl) ?_
            refine TL.nil ?_
            first
            | (first | refine Seq.normal ⟨_, ?_, k + 1, sc, ?_, rfl, ?_⟩ | refine Seq.normal (Q := fun _ _ => True) ⟨_, ?_, k + 1, sc, ?_, rfl, ?_⟩
               · omega
               · (refine ⟨by omega, hyp.2.1, hyp.2.2.trans (read_skip hl (ws := []) ?_ rfl)⟩; rw [hq]; rcases q with _ | (_ | _) <;> (try simp at hg1 hg5) <;> first | rfl | omega)
               · exact Can.too (.cons rfl rfl (.cons rfl rfl (.cons rfl rfl .nil))))
            | (first | refine Seq.normal ⟨_, ?_, k + 1, sc, ?_, rfl, ?_⟩ | refine Seq.normal (Q := fun _ _ => True) ⟨_, ?_, k + 1, sc, ?_, rfl, ?_⟩
               · omega
               · (refine ⟨by omega, hyp.2.1, hyp.2.2.trans (read_skip hl (hq.trans hwq) ?_)⟩; have h35 : (c.toNat : Int) = 35 := (by simpa using hb); have h36 : c = 35 := UInt8.toNat_inj.1 (by rw [show (35 : UInt8).toNat = 35 from rfl]; omega); show decide (w0.data.toList[0]? = some 35) = true; rw [hc.2, h36]; rfl)
               · exact Can.too (.cons rfl rfl (.cons rfl rfl (.cons rfl rfl .nil))))
            | (first | refine Seq.normal ⟨_, ?_, k + 1, (accept sc l (q.getD [])).1, ?_, rfl, ?_⟩ | refine Seq.normal (Q := fun _ _ => True) ⟨_, ?_, k + 1, (accept sc l (q.getD [])).1, ?_, rfl, ?_⟩
               · omega
               · (cases hqe : q with | none => (rw [hqe] at hg2; simp at hg2) | some ws => (rw [hqe] at hb; exact ⟨by omega, small_accept hyp.2.1 (by simpa using hb), by rw [hyp.2.2]; exact read_take hl (hq.trans hqe) (hns _ hqe) (by simpa using hb)⟩))
               · exact Can.too (.cons rfl rfl (.cons rfl rfl (.cons rfl rfl .nil))))
          have hk41 := hb
          refine TC.skip ?_
          show TC _ _ _ _ _ _
          refine TC.seq ?_
          have hns : ∀ ws, q = some ws → skipW ws = false := by first | (intro ws e; rw [e] at hg1; simp at hg1; done) | (intro ws e; cases hwq.symm.trans e; simp [skipW, hc.2]; intro e; subst e; simp at hb)
          refine TC.region ?_
          refine TL.vE (Val.move 1 rfl rfl) ?_
          refine TL.vE (Val.not rfl rfl) ?_
          refine TL.vE (Val.move 1 rfl rfl) ?_
          refine TL.splitG 2 rfl (fun hg2 => ?_) (fun hg2 => ?_)
          · iterate 4 (refine TL.skip (nope_b rfl rfl hg2) (by simp only [nput]; rfl) ?_)
            refine TL.vE (Val.pickT rfl rfl hg2 rfl) ?_
            refine TL.nil ?_
            show TC _ _ _ _ _ _
            refine TC.cond rfl (fun hb => ?_) (fun hb => absurd hb (by simp))
            refine TC.seq ?_
            have h0 : readScript s = (noScript, (k : Int) + 1) := by rw [hyp.2.2]; exact (by cases hqe : q with | none => exact read_bad hl (hq.trans hqe) | some ws => (first | (rw [hqe] at hg2; simp at hg2; done) | (rw [hqe] at hb; exact read_off hl (hq.trans hqe) (hns _ hqe) (by simpa using hb))))
            refine TC.region ?_
            refine TL.opK rfl fun K hK => ?_
            refine OpT.buildN (parts := []) (place := [(0, 1), (1, 1)]) (row' := [.sl 1 [], .sl 6 []]) rfl rfl rfl rfl rfl rfl rfl rfl rfl rfl rfl (by simp [fillC, refsD, refD, nextD]; rfl) ?_
            simp only [nrm, Nat.reduceBEq, Nat.reduceBNe, reduceIte]
            refine hK _ ?_
            clear hK K
            refine TL.vE (Val.move 1 rfl rfl) ?_
            refine TL.vE (Val.addO rfl rfl rfl) ?_
            refine TL.opK rfl fun K hK => ?_
            refine OpT.storeAgg rfl rfl rfl rfl rfl rfl (by simp [St.store1, St.storeAll, St.cellAt, St.isMem, St.root, St.wrote, St.kill, St.setRoot, TS.kill, TV.kill, C.kill, Rt.kill, hitR, hitP, shapeOf, setRow, setAt, rowAt, D.row, D.reRow, List.isPrefixOf]; rfl) ?_ -- None
            simp only [nrm, Nat.reduceBEq, Nat.reduceBNe, reduceIte]
            refine hK _ ?_
            clear hK K
            refine TL.vE (Val.assign 1 rfl rfl) ?_
            refine TL.nil ?_
            show TC _ _ _ _ _ _
            refine TC.ret ?_
            exact ⟨.inr rfl, [_, _], [_, _], _, rfl, by decide, rfl, by simp [refV, refC, valC, C.kill, hitR], rfl, (by simp only [RScr, h0]; rfl)⟩
          · refine TL.gE rfl hg2 (Val.move 1 rfl rfl) ?_
            refine TL.gE rfl hg2 (Val.move 1 rfl rfl) ?_
            refine TL.call2W (yes_some rfl rfl hg2) rfl rfl rfl rfl rfl rfl (impl_accept_f sc hyp.2.1 l (q.getD [])) (by assumption) (bx := some 4) (.bx rfl) (by repeat first | exact .nil | refine GivesAll.cons (.c (.ro _)) ?_ | refine GivesAll.cons (.c (.hand rfl)) ?_ | refine GivesAll.cons (.c (.snap rfl (by first | assumption | exact w_InsS _ | exact w_InsSS _ | exact w_InsSSS _ | exact w_ActS _ | exact whole_map _ _ (fun w c hc => by simp only [D.row, List.mem_cons, List.not_mem_nil, or_false] at hc; subst hc; exact .v _)) rfl)) ?_ | refine GivesAll.cons (.ptr rfl) ?_ | refine GivesAll.cons (.cptr _) ?_ | refine GivesAll.cons (.fn _) ?_ | refine GivesAll.cons (.agg (by repeat first | exact .nil | refine GiveCs.cons (.ro _) ?_ | refine GiveCs.cons (.hand rfl) ?_ | refine GiveCs.cons (.snap rfl (by first | assumption | exact w_InsS _ | exact w_InsSS _ | exact w_InsSSS _ | exact w_ActS _ | exact whole_map _ _ (fun w c hc => by simp only [D.row, List.mem_cons, List.not_mem_nil, or_false] at hc; subst hc; exact .v _)) rfl) ?_)) ?_) rfl (by simp [St.handed, killR, killP, topOf, handRow, idxOf, St.put, TS.kill, TV.kill, C.kill, boxSrc, -Option.not_isSome]; rfl) ?_
            refine TL.gE rfl hg2 (Val.not rfl rfl) ?_
            refine TL.vE (Val.pickF rfl rfl hg2 rfl) ?_
            refine TL.nil ?_
            show TC _ _ _ _ _ _
            refine TC.cond rfl (fun hb => ?_) (fun hb => ?_)
            · have hk49 := hb
              refine TC.seq ?_
              have h0 : readScript s = (noScript, (k : Int) + 1) := by rw [hyp.2.2]; exact (by cases hqe : q with | none => exact read_bad hl (hq.trans hqe) | some ws => (first | (rw [hqe] at hg2; simp at hg2; done) | (rw [hqe] at hb; exact read_off hl (hq.trans hqe) (hns _ hqe) (by simpa using hb))))
              refine TC.region ?_
              refine TL.opK rfl fun K hK => ?_
              refine OpT.buildN (parts := []) (place := [(0, 1), (1, 1)]) (row' := [.sl 1 [], .sl 6 []]) rfl rfl rfl rfl rfl rfl rfl rfl rfl rfl rfl (by simp [fillC, refsD, refD, nextD]; rfl) ?_
              simp only [nrm, Nat.reduceBEq, Nat.reduceBNe, reduceIte]
              refine hK _ ?_
              clear hK K
              refine TL.vE (Val.move 1 rfl rfl) ?_
              refine TL.vE (Val.addO rfl rfl rfl) ?_
              refine TL.opK rfl fun K hK => ?_
              refine OpT.storeAgg rfl rfl rfl rfl rfl rfl (by simp [St.store1, St.storeAll, St.cellAt, St.isMem, St.root, St.wrote, St.kill, St.setRoot, TS.kill, TV.kill, C.kill, Rt.kill, hitR, hitP, shapeOf, setRow, setAt, rowAt, D.row, D.reRow, List.isPrefixOf]; rfl) ?_ -- None
              simp only [nrm, Nat.reduceBEq, Nat.reduceBNe, reduceIte]
              refine hK _ ?_
              clear hK K
              refine TL.vE (Val.assign 1 rfl rfl) ?_
              refine TL.nil ?_
              show TC _ _ _ _ _ _
              refine TC.ret ?_
              exact ⟨.inr rfl, [_, _], [_, _], _, rfl, by decide, rfl, by simp [refV, refC, valC, C.kill, hitR], rfl, (by simp only [RScr, h0]; rfl)⟩
            have hk49 := hb
            refine TC.skip ?_
            show TC _ _ _ _ _ _
            refine TC.region ?_
            refine TL.vE (Val.addO rfl rfl rfl) ?_
            refine TL.vE (Val.move 1 rfl rfl) ?_
            refine TL.nil ?_
            first
            | (first | refine Seq.normal ⟨_, ?_, k + 1, sc, ?_, rfl, ?_⟩ | refine Seq.normal (Q := fun _ _ => True) ⟨_, ?_, k + 1, sc, ?_, rfl, ?_⟩
               · omega
               · (refine ⟨by omega, hyp.2.1, hyp.2.2.trans (read_skip hl (ws := []) ?_ rfl)⟩; rw [hq]; rcases q with _ | (_ | _) <;> (try simp at hg1 hg5) <;> first | rfl | omega)
               · exact Can.too (.cons rfl rfl (.cons rfl rfl (.cons rfl rfl .nil))))
            | (first | refine Seq.normal ⟨_, ?_, k + 1, sc, ?_, rfl, ?_⟩ | refine Seq.normal (Q := fun _ _ => True) ⟨_, ?_, k + 1, sc, ?_, rfl, ?_⟩
               · omega
               · (refine ⟨by omega, hyp.2.1, hyp.2.2.trans (read_skip hl (hq.trans hwq) ?_)⟩; have h35 : (c.toNat : Int) = 35 := (by simpa using hb); have h36 : c = 35 := UInt8.toNat_inj.1 (by rw [show (35 : UInt8).toNat = 35 from rfl]; omega); show decide (w0.data.toList[0]? = some 35) = true; rw [hc.2, h36]; rfl)
               · exact Can.too (.cons rfl rfl (.cons rfl rfl (.cons rfl rfl .nil))))
            | (first | refine Seq.normal ⟨_, ?_, k + 1, (accept sc l (q.getD [])).1, ?_, rfl, ?_⟩ | refine Seq.normal (Q := fun _ _ => True) ⟨_, ?_, k + 1, (accept sc l (q.getD [])).1, ?_, rfl, ?_⟩
               · omega
               · (cases hqe : q with | none => (rw [hqe] at hg2; simp at hg2) | some ws => (rw [hqe] at hb; exact ⟨by omega, small_accept hyp.2.1 (by simpa using hb), by rw [hyp.2.2]; exact read_take hl (hq.trans hqe) (hns _ hqe) (by simpa using hb)⟩))
               · exact Can.too (.cons rfl rfl (.cons rfl rfl (.cons rfl rfl .nil))))
      · iterate 4 (refine TL.skip (nope_b rfl rfl hg1) (by simp only [nput]; rfl) ?_)
        iterate 5 (refine TL.skip (nope_u rfl rfl) (by simp only [nput]; rfl) ?_)
        refine TL.skip (nope_b rfl rfl hg1) (by simp only [nput]; rfl) ?_
        refine TL.vE (Val.pickF rfl rfl hg1 rfl) ?_
        refine TL.nil ?_
        show TC _ _ _ _ _ _
        refine TC.cond rfl (fun hb => absurd hb (by simp)) (fun hb => ?_)
        refine TC.skip ?_
        show TC _ _ _ _ _ _
        refine TC.seq ?_
        have hns : ∀ ws, q = some ws → skipW ws = false := by first | (intro ws e; rw [e] at hg1; simp at hg1; done) | (intro ws e; cases hwq.symm.trans e; simp [skipW, hc.2]; intro e; subst e; simp at hb)
        refine TC.region ?_
        refine TL.vE (Val.move 1 rfl rfl) ?_
        refine TL.vE (Val.not rfl rfl) ?_
        refine TL.vE (Val.move 1 rfl rfl) ?_
        refine TL.splitG 2 rfl (fun hg2 => ?_) (fun hg2 => ?_)
        · iterate 4 (refine TL.skip (nope_b rfl rfl hg2) (by simp only [nput]; rfl) ?_)
          refine TL.vE (Val.pickT rfl rfl hg2 rfl) ?_
          refine TL.nil ?_
          show TC _ _ _ _ _ _
          refine TC.cond rfl (fun hb => ?_) (fun hb => absurd hb (by simp))
          refine TC.seq ?_
          have h0 : readScript s = (noScript, (k : Int) + 1) := by rw [hyp.2.2]; exact (by cases hqe : q with | none => exact read_bad hl (hq.trans hqe) | some ws => (first | (rw [hqe] at hg2; simp at hg2; done) | (rw [hqe] at hb; exact read_off hl (hq.trans hqe) (hns _ hqe) (by simpa using hb))))
          refine TC.region ?_
          refine TL.opK rfl fun K hK => ?_
          refine OpT.buildN (parts := []) (place := [(0, 1), (1, 1)]) (row' := [.sl 1 [], .sl 6 []]) rfl rfl rfl rfl rfl rfl rfl rfl rfl rfl rfl (by simp [fillC, refsD, refD, nextD]; rfl) ?_
          simp only [nrm, Nat.reduceBEq, Nat.reduceBNe, reduceIte]
          refine hK _ ?_
          clear hK K
          refine TL.vE (Val.move 1 rfl rfl) ?_
          refine TL.vE (Val.addO rfl rfl rfl) ?_
          refine TL.opK rfl fun K hK => ?_
          refine OpT.storeAgg rfl rfl rfl rfl rfl rfl (by simp [St.store1, St.storeAll, St.cellAt, St.isMem, St.root, St.wrote, St.kill, St.setRoot, TS.kill, TV.kill, C.kill, Rt.kill, hitR, hitP, shapeOf, setRow, setAt, rowAt, D.row, D.reRow, List.isPrefixOf]; rfl) ?_ -- None
          simp only [nrm, Nat.reduceBEq, Nat.reduceBNe, reduceIte]
          refine hK _ ?_
          clear hK K
          refine TL.vE (Val.assign 1 rfl rfl) ?_
          refine TL.nil ?_
          show TC _ _ _ _ _ _
          refine TC.ret ?_
          exact ⟨.inr rfl, [_, _], [_, _], _, rfl, by decide, rfl, by simp [refV, refC, valC, C.kill, hitR], rfl, (by simp only [RScr, h0]; rfl)⟩
        · refine TL.gE rfl hg2 (Val.move 1 rfl rfl) ?_
          refine TL.gE rfl hg2 (Val.move 1 rfl rfl) ?_
          refine TL.call2W (yes_some rfl rfl hg2) rfl rfl rfl rfl rfl rfl (impl_accept_f sc hyp.2.1 l (q.getD [])) (by assumption) (bx := some 4) (.bx rfl) (by repeat first | exact .nil | refine GivesAll.cons (.c (.ro _)) ?_ | refine GivesAll.cons (.c (.hand rfl)) ?_ | refine GivesAll.cons (.c (.snap rfl (by first | assumption | exact w_InsS _ | exact w_InsSS _ | exact w_InsSSS _ | exact w_ActS _ | exact whole_map _ _ (fun w c hc => by simp only [D.row, List.mem_cons, List.not_mem_nil, or_false] at hc; subst hc; exact .v _)) rfl)) ?_ | refine GivesAll.cons (.ptr rfl) ?_ | refine GivesAll.cons (.cptr _) ?_ | refine GivesAll.cons (.fn _) ?_ | refine GivesAll.cons (.agg (by repeat first | exact .nil | refine GiveCs.cons (.ro _) ?_ | refine GiveCs.cons (.hand rfl) ?_ | refine GiveCs.cons (.snap rfl (by first | assumption | exact w_InsS _ | exact w_InsSS _ | exact w_InsSSS _ | exact w_ActS _ | exact whole_map _ _ (fun w c hc => by simp only [D.row, List.mem_cons, List.not_mem_nil, or_false] at hc; subst hc; exact .v _)) rfl) ?_)) ?_) rfl (by simp [St.handed, killR, killP, topOf, handRow, idxOf, St.put, TS.kill, TV.kill, C.kill, boxSrc, -Option.not_isSome]; rfl) ?_
          refine TL.gE rfl hg2 (Val.not rfl rfl) ?_
          refine TL.vE (Val.pickF rfl rfl hg2 rfl) ?_
          refine TL.nil ?_
          show TC _ _ _ _ _ _
          refine TC.cond rfl (fun hb => ?_) (fun hb => ?_)
          · have hk49 := hb
            refine TC.seq ?_
            have h0 : readScript s = (noScript, (k : Int) + 1) := by rw [hyp.2.2]; exact (by cases hqe : q with | none => exact read_bad hl (hq.trans hqe) | some ws => (first | (rw [hqe] at hg2; simp at hg2; done) | (rw [hqe] at hb; exact read_off hl (hq.trans hqe) (hns _ hqe) (by simpa using hb))))
            refine TC.region ?_
            refine TL.opK rfl fun K hK => ?_
            refine OpT.buildN (parts := []) (place := [(0, 1), (1, 1)]) (row' := [.sl 1 [], .sl 6 []]) rfl rfl rfl rfl rfl rfl rfl rfl rfl rfl rfl (by simp [fillC, refsD, refD, nextD]; rfl) ?_
            simp only [nrm, Nat.reduceBEq, Nat.reduceBNe, reduceIte]
            refine hK _ ?_
            clear hK K
            refine TL.vE (Val.move 1 rfl rfl) ?_
            refine TL.vE (Val.addO rfl rfl rfl) ?_
            refine TL.opK rfl fun K hK => ?_
            refine OpT.storeAgg rfl rfl rfl rfl rfl rfl (by simp [St.store1, St.storeAll, St.cellAt, St.isMem, St.root, St.wrote, St.kill, St.setRoot, TS.kill, TV.kill, C.kill, Rt.kill, hitR, hitP, shapeOf, setRow, setAt, rowAt, D.row, D.reRow, List.isPrefixOf]; rfl) ?_ -- None
            simp only [nrm, Nat.reduceBEq, Nat.reduceBNe, reduceIte]
            refine hK _ ?_
            clear hK K
            refine TL.vE (Val.assign 1 rfl rfl) ?_
            refine TL.nil ?_
            show TC _ _ _ _ _ _
            refine TC.ret ?_
            exact ⟨.inr rfl, [_, _], [_, _], _, rfl, by decide, rfl, by simp [refV, refC, valC, C.kill, hitR], rfl, (by simp only [RScr, h0]; rfl)⟩
          have hk49 := hb
          refine TC.skip ?_
          show TC _ _ _ _ _ _
          refine TC.region ?_
          refine TL.vE (Val.addO rfl rfl rfl) ?_
          refine TL.vE (Val.move 1 rfl rfl) ?_
          refine TL.nil ?_
          first
          | (first | refine Seq.normal ⟨_, ?_, k + 1, sc, ?_, rfl, ?_⟩ | refine Seq.normal (Q := fun _ _ => True) ⟨_, ?_, k + 1, sc, ?_, rfl, ?_⟩
             · omega
             · (refine ⟨by omega, hyp.2.1, hyp.2.2.trans (read_skip hl (ws := []) ?_ rfl)⟩; rw [hq]; rcases q with _ | (_ | _) <;> (try simp at hg1 hg5) <;> first | rfl | omega)
             · exact Can.too (.cons rfl rfl (.cons rfl rfl (.cons rfl rfl .nil))))
          | (first | refine Seq.normal ⟨_, ?_, k + 1, sc, ?_, rfl, ?_⟩ | refine Seq.normal (Q := fun _ _ => True) ⟨_, ?_, k + 1, sc, ?_, rfl, ?_⟩
             · omega
             · (refine ⟨by omega, hyp.2.1, hyp.2.2.trans (read_skip hl (hq.trans hwq) ?_)⟩; have h35 : (c.toNat : Int) = 35 := (by simpa using hb); have h36 : c = 35 := UInt8.toNat_inj.1 (by rw [show (35 : UInt8).toNat = 35 from rfl]; omega); show decide (w0.data.toList[0]? = some 35) = true; rw [hc.2, h36]; rfl)
             · exact Can.too (.cons rfl rfl (.cons rfl rfl (.cons rfl rfl .nil))))
          | (first | refine Seq.normal ⟨_, ?_, k + 1, (accept sc l (q.getD [])).1, ?_, rfl, ?_⟩ | refine Seq.normal (Q := fun _ _ => True) ⟨_, ?_, k + 1, (accept sc l (q.getD [])).1, ?_, rfl, ?_⟩
             · omega
             · (cases hqe : q with | none => (rw [hqe] at hg2; simp at hg2) | some ws => (rw [hqe] at hb; exact ⟨by omega, small_accept hyp.2.1 (by simpa using hb), by rw [hyp.2.2]; exact read_take hl (hq.trans hqe) (hns _ hqe) (by simpa using hb)⟩))
             · exact Can.too (.cons rfl rfl (.cons rfl rfl (.cons rfl rfl .nil))))
    have hk20 := hb
    refine TC.exit ?_
    show TC _ _ _ _ _ _
    refine TC.seq ?_
    refine TC.seq ?_
    have hke : (linesOf s).length ≤ k := by simp at hb; omega
    have hfin := hyp.2.2
    rw [read_end hke] at hfin
    have hkn : k = (linesOf s).length := by omega
    refine TC.region ?_
    refine TL.valE rfl (by first | exact Val.loadCAgg (n := 2) rfl rfl rfl rfl (Nat.le_of_ble_eq_true rfl) | exact Val.loadAgg (n := 2) rfl rfl rfl rfl (by simp [St.cellsAt, St.cellAt, St.root, valC]; rfl) rfl | exact Val.loadAgg (n := 2) rfl rfl rfl rfl rfl rfl) (by simp only [St.put, List.set_cons_succ, List.set_cons_zero, valC, dScript, rScript, D.row, List.take_succ_cons, List.take_zero, List.map_cons, List.map_nil]; rfl) ?_
    refine TL.callF (yes_none rfl) rfl rfl rfl rfl rfl rfl ((impl_ScriptOk_f sc).k) (by repeat first | exact .nil | refine Snaps.cons (.ro _) ?_ | refine Snaps.cons (.aggRo rfl) ?_ | refine Snaps.cons (.cptr _) ?_ | refine Snaps.cons (.fn _) ?_ | refine Snaps.cons (.ownRef rfl (by first | assumption | exact w_InsS _ | exact w_InsSS _ | exact w_InsSSS _ | exact w_ActS _ | exact whole_map _ _ (fun w c hc => by simp only [D.row, List.mem_cons, List.not_mem_nil, or_false] at hc; subst hc; exact .v _))) ?_ | refine Snaps.cons (.aggR (by repeat first | exact .nil | refine SnapCs.cons (.ro _) ?_ | refine SnapCs.cons (.ref rfl (by first | assumption | exact w_InsS _ | exact w_InsSS _ | exact w_InsSSS _ | exact w_ActS _ | exact whole_map _ _ (fun w c hc => by simp only [D.row, List.mem_cons, List.not_mem_nil, or_false] at hc; subst hc; exact .v _))) ?_)) ?_) rfl (by simp only [nput]; rfl) ?_
    refine TL.vE (Val.not rfl rfl) ?_
    refine TL.nil ?_
    show TC _ _ _ _ _ _
    refine TC.cond rfl (fun hb => ?_) (fun hb => ?_)
    · have hk56 := hb
      refine TC.seq ?_
      have h0 : readScript s = (noScript, ((linesOf s).length : Int) + 1) := by rw [hfin, if_neg (by simpa using hb), hkn]
      refine TC.region ?_
      refine TL.opK rfl fun K hK => ?_
      refine OpT.buildN (parts := []) (place := [(0, 1), (1, 1)]) (row' := [.sl 1 [], .sl 6 []]) rfl rfl rfl rfl rfl rfl rfl rfl rfl rfl rfl (by simp [fillC, refsD, refD, nextD]; rfl) ?_
      simp only [nrm, Nat.reduceBEq, Nat.reduceBNe, reduceIte]
      refine hK _ ?_
      clear hK K
      refine TL.vE (Val.move 1 rfl rfl) ?_
      refine TL.vE (by first | exact Val.len rfl rfl rfl rfl | exact Val.lenS rfl rfl rfl) ?_
      refine TL.vE (Val.addO rfl rfl rfl) ?_
      refine TL.opK rfl fun K hK => ?_
      refine OpT.storeAgg rfl rfl rfl rfl rfl rfl (by simp [St.store1, St.storeAll, St.cellAt, St.isMem, St.root, St.wrote, St.kill, St.setRoot, TS.kill, TV.kill, C.kill, Rt.kill, hitR, hitP, shapeOf, setRow, setAt, rowAt, D.row, D.reRow, List.isPrefixOf]; rfl) ?_ -- None
      simp only [nrm, Nat.reduceBEq, Nat.reduceBNe, reduceIte]
      refine hK _ ?_
      clear hK K
      refine TL.vE (Val.assign 1 rfl rfl) ?_
      refine TL.nil ?_
      show TC _ _ _ _ _ _
      refine TC.ret ?_
      exact ⟨.inr rfl, [_, _], [_, _], _, rfl, by decide, rfl, by simp [refV, refC, valC, C.kill, hitR], rfl, (by simp only [RScr, h0, List.length_map]; rfl)⟩
    have hk56 := hb
    refine TC.skip ?_
    show TC _ _ _ _ _ _
    refine TC.seq ?_
    have h0 : readScript s = (sc, 0) := by rw [hfin, if_pos (by simpa using hb)]
    refine TC.region ?_
    refine TL.valE rfl (by first | exact Val.loadCAgg (n := 2) rfl rfl rfl rfl (Nat.le_of_ble_eq_true rfl) | exact Val.loadAgg (n := 2) rfl rfl rfl rfl (by simp [St.cellsAt, St.cellAt, St.root, valC]; rfl) rfl | exact Val.loadAgg (n := 2) rfl rfl rfl rfl rfl rfl) (by simp only [St.put, List.set_cons_succ, List.set_cons_zero, valC, dScript, rScript, D.row, List.take_succ_cons, List.take_zero, List.map_cons, List.map_nil]; rfl) ?_
    refine TL.opK rfl fun K hK => ?_
    refine OpT.storeAgg rfl rfl rfl rfl rfl rfl (by simp [St.store1, St.storeAll, St.cellAt, St.isMem, St.root, St.wrote, St.kill, St.setRoot, TS.kill, TV.kill, C.kill, Rt.kill, hitR, hitP, shapeOf, setRow, setAt, rowAt, D.row, D.reRow, List.isPrefixOf]; rfl) ?_ -- None
    simp only [nrm, Nat.reduceBEq, Nat.reduceBNe, reduceIte]
    refine hK _ ?_
    clear hK K
    refine TL.vE (Val.assign 1 rfl rfl) ?_
    refine TL.nil ?_
    show TC _ _ _ _ _ _
    refine TC.ret ?_
    exact ⟨.inr rfl, [_, _], [_, _], _, rfl, by decide, rfl, by simp [refV, refC, valC, C.kill, hitR], rfl, (by simp only [RScr, h0]; rfl)⟩
end Go.Proofs.YtfbjcdhphhfpfaaGreatDoor.T

