/- Scripts read: the reference's ReadScript. PRINTED by gen.py out of spec_script5.py. -/
import Derived.Test.YtfbjcdhphhfpfaaGreatDoorT3p
import Derived.Test.YtfbjcdhphhfpfaaGreatDoorYhp
import Derived.Test.YtfbjcdhphhfpfaaGreatDoorWpp
namespace Go.Proofs.YtfbjcdhphhfpfaaGreatDoor.T
open Go
set_option linter.unusedVariables false
set_option linter.unusedSimpArgs false
set_option maxRecDepth 100000
set_option maxHeartbeats 1000000

theorem spec_ReadAct_q {s : ByteArray} {q : Option VAct} (h : readAct s = q) : Fun Tryz.prog 11 [S s] (RAct q) := h ▸ spec_ReadAct_f s
theorem spec_ReadScript_f (s : ByteArray) : Fun Tryz.prog 4 [S s] (RScr (readScript s)) := by
  refine Fun.of Tryz.func4 rfl (by simp [Tryz.ntmps4]) fun w g0 => ?_
  simp only [Tryz.ntmps4, List.length_cons, List.length_nil, Nat.reduceAdd, Nat.reduceSub, List.replicate, List.cons_append, List.nil_append]
  refine TC.seq ?_
  refine TC.region ?_
  refine TL.opK rfl fun K hK => ?_
  refine OpT.alloc rfl rfl rfl rfl rfl rfl ?_
  simp only [nrm, Nat.reduceBEq, Nat.reduceBNe, reduceIte]
  refine hK _ ?_
  clear hK K
  refine TL.vE (Val.assign 1 rfl rfl) ?_
  refine TL.nil ?_
  show TC _ _ _ _ _ _
  refine TC.seq ?_
  refine TC.seq ?_
  refine TC.region ?_
  refine TL.vE (Val.move 1 rfl rfl) ?_
  refine TL.vE (by first | exact Val.len rfl rfl rfl rfl | exact Val.lenS rfl rfl rfl) ?_
  refine TL.vE (Val.gtr rfl rfl rfl) ?_
  refine TL.nil ?_
  show TC _ _ _ _ _ _
  refine TC.cond rfl (fun hb => ?_) (fun hb => ?_)
  · have hk13 := hb
    refine TC.seq ?_
    have h0 : readScript s = (noScript, -1) := if_pos (by simp at hb; omega)
    refine TC.region ?_
    refine TL.opK rfl fun K hK => ?_
    refine OpT.buildN (parts := []) (place := [(0, 1), (1, 1)]) (row' := [.sl 1 [], .sl 6 []]) rfl rfl rfl rfl rfl rfl rfl rfl rfl rfl rfl (by simp [fillC, refsD, refD, nextD]; rfl) ?_
    simp only [nrm, Nat.reduceBEq, Nat.reduceBNe, reduceIte]
    refine hK _ ?_
    clear hK K
    refine TL.opK rfl fun K hK => ?_
    refine OpT.storeAgg rfl rfl rfl rfl rfl rfl (by simp [St.store1, St.storeAll, St.cellAt, St.isMem, St.root, St.wrote, St.kill, St.setRoot, TS.kill, TV.kill, C.kill, Rt.kill, hitR, hitP, shapeOf, setRow, setAt, rowAt, D.row, D.reRow, List.isPrefixOf]; rfl) ?_ -- None
    simp only [nrm, Nat.reduceBEq, Nat.reduceBNe, reduceIte]
    refine hK _ ?_
    clear hK K
    refine TL.vE (Val.assign 1 rfl rfl) ?_
    refine TL.nil ?_
    show TC _ _ _ _ _ _
    refine TC.ret ?_
    exact ⟨.inr rfl, [_, _], [_, _], _, rfl, by decide, rfl, by simp [refV, refC, valC, C.kill, hitR], rfl, (by simp only [RScr, h0]; rfl)⟩
  have hk13 := hb
  refine TC.skip ?_
  show TC _ _ _ _ _ _
  refine TC.seq ?_
  have hs0 : s.size ≤ 12000 := by simp at hb; omega
  have hlen := linesOf_len s
  have hrs : readScript s = readFrom (linesOf s) noScript 0 := if_neg (by omega)
  refine TC.region ?_
  refine TL.opK rfl fun K hK => ?_
  refine OpT.buildN (parts := []) (place := [(0, 1), (1, 1)]) (row' := [.sl 1 [], .sl 6 []]) rfl rfl rfl rfl rfl rfl rfl rfl rfl rfl rfl (by simp [fillC, refsD, refD, nextD]; rfl) ?_
  simp only [nrm, Nat.reduceBEq, Nat.reduceBNe, reduceIte]
  refine hK _ ?_
  clear hK K
  refine TL.opK rfl fun K hK => ?_
  refine OpT.alloc rfl rfl rfl rfl rfl rfl ?_
  simp only [nrm, Nat.reduceBEq, Nat.reduceBNe, reduceIte]
  refine hK _ ?_
  clear hK K
  refine TL.opK rfl fun K hK => ?_
  refine OpT.storeAgg rfl rfl rfl rfl rfl rfl (by simp [St.store1, St.storeAll, St.cellAt, St.isMem, St.root, St.wrote, St.kill, St.setRoot, TS.kill, TV.kill, C.kill, Rt.kill, hitR, hitP, shapeOf, setRow, setAt, rowAt, D.row, D.reRow, List.isPrefixOf]; rfl) ?_ -- None
  simp only [nrm, Nat.reduceBEq, Nat.reduceBNe, reduceIte]
  refine hK _ ?_
  clear hK K
  refine TL.nil ?_
  show TC _ _ _ _ _ _
  refine TC.seq ?_
  refine TC.region ?_
  refine TL.vE (Val.move 1 rfl rfl) ?_
  refine TL.opK rfl fun K hK => ?_
  refine OpT.callL rfl rfl rfl rfl rfl rfl ((spec_l38Cut_f s hs0).k) (by repeat first | exact .nil | refine Snaps.cons (.ro _) ?_ | refine Snaps.cons (.aggRo rfl) ?_ | refine Snaps.cons (.cptr _) ?_ | refine Snaps.cons (.fn _) ?_ | refine Snaps.cons (.ownRef rfl (by first | assumption | exact w_InsS _ | exact w_InsSS _ | exact w_InsSSS _ | exact w_ActS _ | exact whole_map _ _ (fun w c hc => by simp only [D.row, List.mem_cons, List.not_mem_nil, or_false] at hc; subst hc; exact .v _))) ?_ | refine Snaps.cons (.aggR (by repeat first | exact .nil | refine SnapCs.cons (.ro _) ?_ | refine SnapCs.cons (.ref rfl (by first | assumption | exact w_InsS _ | exact w_InsSS _ | exact w_InsSSS _ | exact w_ActS _ | exact whole_map _ _ (fun w c hc => by simp only [D.row, List.mem_cons, List.not_mem_nil, or_false] at hc; subst hc; exact .v _))) ?_)) ?_) ?_
  simp only [nrm, Nat.reduceBEq, Nat.reduceBNe, reduceIte]
  refine hK _ ?_
  clear hK K
  refine TL.vE (Val.assign 1 rfl rfl) ?_
  refine TL.nil ?_
  show TC _ _ _ _ _ _
  refine TC.seq ?_
  refine TC.seq ?_
  refine TC.region ?_
  refine TL.vE (Val.assign 1 rfl rfl) ?_
  refine TL.nil ?_
  show TC _ _ _ _ _ _
  refine TC.block ?_
  refine TC.loop (fun μ st => ∃ (k : Nat) (sc : VScript), (k ≤ (linesOf s).length ∧ Small sc ∧ readScript s = readFrom ((linesOf s).drop k) sc k) ∧ μ = (linesOf s).length - k ∧ Can st ⟨[.one .dead, .one .dead, .one (.ptr ⟨2, [], 0⟩), .one .dead, .one (.ptr ⟨4, [], 0⟩), .one (.c (.ref ⟨17, [], 0⟩)), I k, .one .dead, .one .dead, .one .dead, .one .dead, .one .dead, .one .dead, .one .dead, .one .dead, .one .dead, .one .dead, .one .dead, .one .dead, .one .dead, .one .dead, .one .dead, .one .dead, .one .dead, .one .dead, .one .dead, .one .dead, .one .dead, .one .dead, .one .dead, .one .dead, .one .dead, .one .dead, .one .dead, .one .dead, .one .dead, .one .dead, .one .dead, .one .dead, .one .dead, .one .dead, .one .dead, .one .dead, .one .dead, .one .dead, .one .dead, .one .dead, .one .dead, .one .dead, .one .dead, .one .dead, .one .dead, .one .dead, .one .dead, .one .dead, .one .dead, .one .dead, .one .dead, .one .dead, .one .dead, .one .dead, .one .dead, .one .dead, .one .dead, .one .dead, .one .dead, .one .dead, .one .dead, .one .dead, .one .dead, .one .dead, .one .dead, .one .dead, .one .dead, .one .dead, .one .dead, .one .dead, .one .dead, .one .dead, .one .dead, .one .dead, .one .dead, .one .dead, .one .dead, .one .dead, .one .dead, .one .dead, .one .dead, .one .dead, .one .dead, .one .dead, .one .dead, .one .dead, .one .dead, .one .dead, .one .dead, .one .dead, .one .dead, .one .dead, .one .dead, .one .dead], [(4, ⟨true, [.own (.sl 1 (sc.All.map dInsSS)), .own (.sl 6 (sc.Acts.map dAct))]⟩), (17, ⟨false, [.own (.sl 1 ((linesOf s).map fun w => .v (.string w)))]⟩), (2, ⟨true, [.own (.sl 1 []), .own (.sl 6 [])]⟩)]⟩) ((linesOf s).length) ?_ fun μ st hI => ?_
  · refine ⟨0, noScript, ⟨by omega, small_no, by rw [hrs]; rfl⟩, by simp, ?_⟩
    exact Can.too (.cons rfl rfl (.cons rfl rfl (.cons rfl rfl .nil)))
  · obtain ⟨k, sc, hyp, rfl, hcan⟩ := hI
    refine TC.can hcan ?_
    clear hcan
    refine TC.seq ?_
    refine TC.seq ?_
    refine TC.region ?_
    refine TL.vE (Val.move 1 rfl rfl) ?_
    refine TL.vE (Val.move 1 rfl rfl) ?_
    refine TL.vE (by first | exact Val.len rfl rfl rfl rfl | exact Val.lenS rfl rfl rfl) ?_
    refine TL.vE (Val.lss rfl rfl rfl) ?_
    refine TL.nil ?_
    show TC _ _ _ _ _ _
    refine TC.cond rfl (fun hb => ?_) (fun hb => ?_)
    · have hk21 := hb
      refine TC.skip ?_
      show TC _ _ _ _ _ _
      refine TC.seq ?_
      refine TC.block ?_
      refine TC.seq ?_
      have hk : k < (linesOf s).length := by simp at hb; omega
      obtain ⟨l, hl⟩ := at_of (xs := linesOf s) (k := k) hk
      obtain ⟨q, hq⟩ : ∃ q, parts l = q := ⟨_, rfl⟩
      refine TC.region ?_
      refine TL.vE (Val.move 1 rfl rfl) ?_
      refine TL.vE (Val.move 1 rfl rfl) ?_
      refine TL.vE (by exact Val.index rfl rfl rfl rfl rfl rfl (by omega) (by simp; omega)) ?_
      refine TL.valE rfl (by exact Val.load rfl rfl rfl (by simp [St.cellAt, St.root, rowAt, setRow, setAt, D.row, D.reRow, listOf, List.getElem?_set_self', List.set_set, hl]; first | rfl | exact ⟨rfl, rfl⟩) rfl) (by simp only [nput, valC]; rfl) ?_
      refine TL.opK rfl fun K hK => ?_
      refine OpT.callG rfl rfl rfl rfl rfl rfl ((spec_PartsOf_q hq).k) (by repeat first | exact .nil | refine Snaps.cons (.ro _) ?_ | refine Snaps.cons (.aggRo rfl) ?_ | refine Snaps.cons (.cptr _) ?_ | refine Snaps.cons (.fn _) ?_ | refine Snaps.cons (.ownRef rfl (by first | assumption | exact w_InsS _ | exact w_InsSS _ | exact w_InsSSS _ | exact w_ActS _ | exact whole_map _ _ (fun w c hc => by simp only [D.row, List.mem_cons, List.not_mem_nil, or_false] at hc; subst hc; exact .v _))) ?_ | refine Snaps.cons (.aggR (by repeat first | exact .nil | refine SnapCs.cons (.ro _) ?_ | refine SnapCs.cons (.ref rfl (by first | assumption | exact w_InsS _ | exact w_InsSS _ | exact w_InsSSS _ | exact w_ActS _ | exact whole_map _ _ (fun w c hc => by simp only [D.row, List.mem_cons, List.not_mem_nil, or_false] at hc; subst hc; exact .v _))) ?_)) ?_) rfl ?_
      simp only [nrm, Nat.reduceBEq, Nat.reduceBNe, reduceIte]
      refine hK _ ?_
      clear hK K
      refine TL.vE (Val.move 1 rfl rfl) ?_
      refine TL.vE (Val.extract rfl rfl rfl) ?_
      refine TL.vE (Val.extract rfl rfl rfl) ?_
      refine TL.vE (Val.assign 1 rfl rfl) ?_
      refine TL.vE (Val.assign 1 rfl rfl) ?_
      refine TL.nil ?_
      show TC _ _ _ _ _ _
      refine TC.seq ?_
      refine TC.seq ?_
      refine TC.region ?_
      refine TL.vE (Val.move 1 rfl rfl) ?_
      refine TL.vE (Val.move 1 rfl rfl) ?_
      refine TL.splitG 1 rfl (fun hg1 => ?_) (fun hg1 => ?_)
      · refine TL.gE rfl hg1 (Val.move 1 rfl rfl) ?_
        refine TL.gE rfl hg1 (by first | exact Val.len rfl rfl rfl rfl | exact Val.lenS rfl rfl rfl) ?_
        refine TL.gE rfl hg1 (Val.eql rfl rfl rfl) ?_
        refine TL.gE rfl hg1 (Val.move 1 rfl rfl) ?_
        refine TL.splitG 5 rfl (fun hg5 => ?_) (fun hg5 => ?_)
        · iterate 5 (refine TL.skip (nope_b rfl rfl hg5) (by simp only [nput]; rfl) ?_)
          refine TL.gE rfl hg1 (Val.pickT rfl rfl hg5 rfl) ?_
          refine TL.vE (Val.pickT rfl rfl hg1 rfl) ?_
          refine TL.nil ?_
          show TC _ _ _ _ _ _
          refine TC.cond rfl (fun hb => ?_) (fun hb => absurd hb (by simp))
          refine TC.exit ?_
          show TC _ _ _ _ _ _
          refine TC.region ?_
          refine TL.vE (Val.move 1 rfl rfl) ?_
          refine TL.vE (Val.addO rfl rfl rfl) ?_
          refine TL.vE (Val.assign 1 rfl rfl) ?_
          refine TL.nil ?_
          first
          | (first | refine Seq.normal ⟨_, ?_, k + 1, sc, ?_, rfl, ?_⟩ | refine Seq.normal (Q := fun _ _ => True) ⟨_, ?_, k + 1, sc, ?_, rfl, ?_⟩
             · omega
             · (refine ⟨by omega, hyp.2.1, hyp.2.2.trans (read_skip hl (ws := []) ?_ rfl)⟩; rw [hq]; rcases q with _ | (_ | _) <;> (try simp at hg1 hg5) <;> first | rfl | omega)
             · exact Can.too (.cons rfl rfl (.cons rfl rfl (.cons rfl rfl .nil))))
          | (first | refine Seq.normal ⟨_, ?_, k + 1, sc, ?_, rfl, ?_⟩ | refine Seq.normal (Q := fun _ _ => True) ⟨_, ?_, k + 1, sc, ?_, rfl, ?_⟩
             · omega
             · (refine ⟨by omega, hyp.2.1, hyp.2.2.trans (read_skip hl hq ?_)⟩; have h35 : (c.toNat : Int) = 35 := (by simpa using hb); have h36 : c = 35 := UInt8.toNat_inj.1 (by rw [show (35 : UInt8).toNat = 35 from rfl]; omega); show decide (w0.data.toList[0]? = some 35) = true; rw [hc.2, h36]; rfl)
             · exact Can.too (.cons rfl rfl (.cons rfl rfl (.cons rfl rfl .nil))))
        · obtain ⟨w0, wr, rfl⟩ : ∃ w0 wr, q = some (w0 :: wr) := by rcases q with _ | (_ | ⟨a, b⟩) <;> simp at hg1 hg5 <;> exact ⟨_, _, rfl⟩
          have hpw := (parts_word hq).2 w0 List.mem_cons_self
          obtain ⟨c, hc0⟩ := byte_at w0 0
          have hc := hc0 (by have := hpw.1; omega)
          refine TL.gE rfl hg5 (Val.move 1 rfl rfl) ?_
          refine TL.gE rfl hg5 (by exact Val.index rfl rfl rfl rfl rfl rfl (by omega) (by simp)) ?_
          refine TL.guardE rfl rfl hg5 (by exact Val.load rfl rfl rfl (by simp [St.cellAt, St.root, rowAt, setRow, setAt, D.row, D.reRow, listOf, List.getElem?_set_self', List.set_set, hq]; first | rfl | exact ⟨rfl, rfl⟩) rfl) (by simp only [nput, valC]; rfl) ?_
          refine TL.gE rfl hg5 (by exact Val.indexS rfl rfl rfl rfl (by omega) hc.1) ?_
          refine TL.gE rfl hg5 (Val.eql rfl rfl rfl) ?_
          refine TL.gE rfl hg1 (Val.pickF rfl rfl hg5 rfl) ?_
          refine TL.vE (Val.pickT rfl rfl hg1 rfl) ?_
          refine TL.nil ?_
          show TC _ _ _ _ _ _
          refine TC.cond rfl (fun hb => ?_) (fun hb => ?_)
          · have hk44 := hb
            refine TC.exit ?_
            show TC _ _ _ _ _ _
            refine TC.region ?_
            refine TL.vE (Val.move 1 rfl rfl) ?_
            refine TL.vE (Val.addO rfl rfl rfl) ?_
            refine TL.vE (Val.assign 1 rfl rfl) ?_
            refine TL.nil ?_
            first
            | (first | refine Seq.normal ⟨_, ?_, k + 1, sc, ?_, rfl, ?_⟩ | refine Seq.normal (Q := fun _ _ => True) ⟨_, ?_, k + 1, sc, ?_, rfl, ?_⟩
               · omega
               · (refine ⟨by omega, hyp.2.1, hyp.2.2.trans (read_skip hl (ws := []) ?_ rfl)⟩; rw [hq]; rcases q with _ | (_ | _) <;> (try simp at hg1 hg5) <;> first | rfl | omega)
               · exact Can.too (.cons rfl rfl (.cons rfl rfl (.cons rfl rfl .nil))))
            | (first | refine Seq.normal ⟨_, ?_, k + 1, sc, ?_, rfl, ?_⟩ | refine Seq.normal (Q := fun _ _ => True) ⟨_, ?_, k + 1, sc, ?_, rfl, ?_⟩
               · omega
               · (refine ⟨by omega, hyp.2.1, hyp.2.2.trans (read_skip hl hq ?_)⟩; have h35 : (c.toNat : Int) = 35 := (by simpa using hb); have h36 : c = 35 := UInt8.toNat_inj.1 (by rw [show (35 : UInt8).toNat = 35 from rfl]; omega); show decide (w0.data.toList[0]? = some 35) = true; rw [hc.2, h36]; rfl)
               · exact Can.too (.cons rfl rfl (.cons rfl rfl (.cons rfl rfl .nil))))
          have hk44 := hb
          refine TC.skip ?_
          show TC _ _ _ _ _ _
          refine TC.seq ?_
          first | (obtain rfl : q = none := by cases q <;> simp at hg1 <;> rfl) | (have hns : skipW (w0 :: wr) = false := by simp [skipW, hc.2]; intro e; subst e; simp at hb)
          obtain ⟨qa, hqa⟩ : ∃ x, readAct l = x := ⟨_, rfl⟩
          refine TC.region ?_
          refine TL.vE (Val.move 1 rfl rfl) ?_
          refine TL.vE (Val.move 1 rfl rfl) ?_
          refine TL.vE (by exact Val.index rfl rfl rfl rfl rfl rfl (by omega) (by simp; omega)) ?_
          refine TL.valE rfl (by exact Val.load rfl rfl rfl (by simp [St.cellAt, St.root, rowAt, setRow, setAt, D.row, D.reRow, listOf, List.getElem?_set_self', List.set_set, hl]; first | rfl | exact ⟨rfl, rfl⟩) rfl) (by simp only [nput, valC]; rfl) ?_
          refine TL.opK rfl fun K hK => ?_
          refine OpT.callG rfl rfl rfl rfl rfl rfl ((spec_ReadAct_q hqa).k) (by repeat first | exact .nil | refine Snaps.cons (.ro _) ?_ | refine Snaps.cons (.aggRo rfl) ?_ | refine Snaps.cons (.cptr _) ?_ | refine Snaps.cons (.fn _) ?_ | refine Snaps.cons (.ownRef rfl (by first | assumption | exact w_InsS _ | exact w_InsSS _ | exact w_InsSSS _ | exact w_ActS _ | exact whole_map _ _ (fun w c hc => by simp only [D.row, List.mem_cons, List.not_mem_nil, or_false] at hc; subst hc; exact .v _))) ?_ | refine Snaps.cons (.aggR (by repeat first | exact .nil | refine SnapCs.cons (.ro _) ?_ | refine SnapCs.cons (.ref rfl (by first | assumption | exact w_InsS _ | exact w_InsSS _ | exact w_InsSSS _ | exact w_ActS _ | exact whole_map _ _ (fun w c hc => by simp only [D.row, List.mem_cons, List.not_mem_nil, or_false] at hc; subst hc; exact .v _))) ?_)) ?_) rfl ?_
          simp only [nrm, Nat.reduceBEq, Nat.reduceBNe, reduceIte]
          refine hK _ ?_
          clear hK K
          refine TL.vE (Val.move 1 rfl rfl) ?_
          refine TL.vE (Val.extract rfl rfl rfl) ?_
          refine TL.vE (Val.extract rfl rfl rfl) ?_
          refine TL.opK rfl fun K hK => ?_
          refine OpT.alloc rfl rfl rfl rfl rfl rfl ?_
          simp only [nrm, Nat.reduceBEq, Nat.reduceBNe, reduceIte]
          refine hK _ ?_
          clear hK K
          refine TL.opK rfl fun K hK => ?_
          refine OpT.storeAgg rfl rfl rfl rfl rfl rfl (by simp [St.store1, St.storeAll, St.cellAt, St.isMem, St.root, St.wrote, St.kill, St.setRoot, TS.kill, TV.kill, C.kill, Rt.kill, hitR, hitP, shapeOf, setRow, setAt, rowAt, D.row, D.reRow, List.isPrefixOf]; rfl) ?_ -- None
          simp only [nrm, Nat.reduceBEq, Nat.reduceBNe, reduceIte]
          refine hK _ ?_
          clear hK K
          refine TL.vE (Val.assign 1 rfl rfl) ?_
          refine TL.nil ?_
          show TC _ _ _ _ _ _
          refine TC.block ?_
          refine TC.seq ?_
          refine TC.region ?_
          refine TL.vE (Val.move 1 rfl rfl) ?_
          refine TL.vE (Val.not rfl rfl) ?_
          refine TL.vE (Val.assign 1 rfl rfl) ?_
          refine TL.nil ?_
          show TC _ _ _ _ _ _
          refine TC.cond rfl (fun hb => absurd hb (by simp)) (fun hb => ?_)
          refine TC.seq ?_
          refine TC.region ?_
          refine TL.vE (Val.move 1 rfl rfl) ?_
          refine TL.vE (Val.move 1 rfl rfl) ?_
          refine TL.splitG 1 rfl (fun hg1 => ?_) (fun hg1 => ?_)
          · obtain ⟨a, rfl⟩ : ∃ a, qa = some a := by cases qa <;> simp at hg1 <;> exact ⟨_, rfl⟩
            refine TL.guardE rfl rfl hg1 (by first | exact Val.field rfl rfl rfl | exact Val.fieldC rfl rfl rfl) (by simp only [nput, npf, Nat.reduceAdd]; rfl) ?_
            refine TL.guardE rfl rfl hg1 (by first | exact Val.load rfl rfl rfl rfl rfl | exact Val.loadC rfl rfl rfl) (by simp only [nput, valC]; rfl) ?_
            refine TL.gE rfl hg1 (by first | exact Val.len rfl rfl rfl rfl | exact Val.lenS rfl rfl rfl) ?_
            refine TL.gE rfl hg1 (Val.lss rfl rfl rfl) ?_
            refine TL.vE (Val.pickT rfl rfl hg1 rfl) ?_
            refine TL.vE (Val.assign 1 rfl rfl) ?_
            refine TL.nil ?_
            show TC _ _ _ _ _ _
            refine TC.cond rfl (fun hb => ?_) (fun hb => ?_)
            · have hk59 := hb
              have h80 := hb
              have hac := accept_act (ws := w0 :: wr) (s := sc) hqa
              refine TC.take 4 1 3000 (by simp [St.take, St.root, St.fresh, St.kill, St.setRoot, TS.kill, TV.kill, C.kill, Rt.kill]; rfl) ?_
              refine TC.region ?_
              refine TL.fld ?_
              refine TL.ld ?_
              refine TL.valE rfl (by first | exact Val.loadCAgg (n := 6) rfl rfl rfl rfl (Nat.le_of_ble_eq_true rfl) | exact Val.loadAgg (n := 6) rfl rfl rfl rfl (by simp [St.cellsAt, St.cellAt, St.root, valC]; rfl) rfl | exact Val.loadAgg (n := 6) rfl rfl rfl rfl rfl rfl) (by simp only [St.put, List.set_cons_succ, List.set_cons_zero, valC, dAct, rAct, D.row, List.take_succ_cons, List.take_zero, List.map_cons, List.map_nil]; rfl) ?_
              refine TL.opK rfl fun K hK => ?_
              refine OpT.buildP rfl rfl (xs := [(Go.Operand.tmp 69)]) rfl rfl rfl rfl (sz := 6) rfl rfl rfl (by decide) (by decide) ?_
              simp only [nrm, Nat.reduceBEq, Nat.reduceBNe, reduceIte]
              refine hK _ ?_
              clear hK K
              refine TL.opK rfl fun K hK => ?_
              refine OpT.appendE rfl rfl rfl (sz := 6) rfl rfl rfl (by simp [isPlain, D.row, elD, cellD]) rfl rfl rfl rfl rfl rfl rfl (by have := hyp.2.1.2.1; simp; omega) ?_
              simp only [nrm, Nat.reduceBEq, Nat.reduceBNe, reduceIte]
              refine hK _ ?_
              clear hK K
              refine TL.fld ?_
              refine TL.opK rfl fun K hK => ?_
              refine OpT.store (z := 1) rfl rfl rfl rfl rfl rfl (by simp [St.store1, St.storeAll, St.cellAt, St.isMem, St.root, St.wrote, St.kill, St.setRoot, TS.kill, TV.kill, C.kill, Rt.kill, hitR, hitP, shapeOf, setRow, setAt, rowAt, D.row, D.reRow, List.isPrefixOf]; rfl) ?_ -- None
              simp only [nrm, Nat.reduceBEq, Nat.reduceBNe, reduceIte]
              refine hK _ ?_
              clear hK K
              refine TL.nil ?_
              show TC _ _ _ _ _ _
              refine TC.region ?_
              refine TL.vE (Val.move 1 rfl rfl) ?_
              refine TL.vE (Val.addO rfl rfl rfl) ?_
              refine TL.vE (Val.assign 1 rfl rfl) ?_
              refine TL.nil ?_
              first
              | (first | refine Seq.normal ⟨_, ?_, k + 1, (⟨sc.All, sc.Acts ++ [a]⟩ : VScript), ?_, rfl, ?_⟩ | refine Seq.normal (Q := fun _ _ => True) ⟨_, ?_, k + 1, (⟨sc.All, sc.Acts ++ [a]⟩ : VScript), ?_, rfl, ?_⟩
                 · omega
                 · (have h1 := small_accept (l := l) (ws := w0 :: wr) hyp.2.1 (by rw [hac]; simp at h80 ⊢; omega); rw [hac] at h1; have h2 := read_take hl hq hns (by rw [hac]; simp at h80 ⊢; omega); rw [hac] at h2; exact ⟨by omega, h1, hyp.2.2.trans h2⟩)
                 · exact Can.too (.cons rfl (by simp [elD, cellD]) (.cons rfl rfl (.cons rfl rfl .nil))))
            have hk59 := hb
            refine TC.seq ?_
            have h80 := hb
            first | (obtain rfl : qa = none := by cases qa <;> simp at hg1 <;> rfl) | skip
            refine TC.region ?_
            refine TL.vE (Val.move 1 rfl rfl) ?_
            refine TL.vE (Val.move 1 rfl rfl) ?_
            iterate 4 (refine TL.skip (nope_b rfl rfl rfl) (by simp only [nput]; rfl) ?_)
            refine TL.vE (Val.pickT rfl rfl rfl rfl) ?_
            refine TL.vE (Val.move 1 rfl rfl) ?_
            iterate 7 (refine TL.skip (nope_b rfl rfl rfl) (by simp only [nput]; rfl) ?_)
            refine TL.vE (Val.pickT rfl rfl rfl rfl) ?_
            refine TL.vE (Val.assign 1 rfl rfl) ?_
            refine TL.nil ?_
            show TC _ _ _ _ _ _
            refine TC.cond rfl (fun hb => ?_) (fun hb => absurd hb (by simp))
            refine TC.seq ?_
            have h0 : readScript s = (noScript, (k : Int) + 1) := by rw [hyp.2.2]; exact read_off hl hq hns (by first | (rw [accept_act hqa]; simp at h80 ⊢; omega) | (rw [accept_late hqa (by intro e; rw [e] at hg7; simp at hg7)]) | (rw [← (begins_accept (ws := w0 :: wr) hqa hA).1]; simpa using hb))
            refine TC.region ?_
            refine TL.opK rfl fun K hK => ?_
            refine OpT.buildN (parts := []) (place := [(0, 1), (1, 1)]) (row' := [.sl 1 [], .sl 6 []]) rfl rfl rfl rfl rfl rfl rfl rfl rfl rfl rfl (by simp [fillC, refsD, refD, nextD]; rfl) ?_
            simp only [nrm, Nat.reduceBEq, Nat.reduceBNe, reduceIte]
            refine hK _ ?_
            clear hK K
            refine TL.vE (Val.move 1 rfl rfl) ?_
            refine TL.vE (Val.addO rfl rfl rfl) ?_
            refine TL.opK rfl fun K hK => ?_
            refine OpT.storeAgg rfl rfl rfl rfl rfl rfl (by simp [St.store1, St.storeAll, St.cellAt, St.isMem, St.root, St.wrote, St.kill, St.setRoot, TS.kill, TV.kill, C.kill, Rt.kill, hitR, hitP, shapeOf, setRow, setAt, rowAt, D.row, D.reRow, List.isPrefixOf]; rfl) ?_ -- None
            simp only [nrm, Nat.reduceBEq, Nat.reduceBNe, reduceIte]
            refine hK _ ?_
            clear hK K
            refine TL.vE (Val.assign 1 rfl rfl) ?_
            refine TL.nil ?_
            show TC _ _ _ _ _ _
            refine TC.ret ?_
            exact ⟨.inr rfl, [_, _], [_, _], _, rfl, by decide, rfl, by simp [refV, refC, valC, C.kill, hitR], rfl, (by simp only [RScr, h0]; rfl)⟩
          · iterate 4 (refine TL.skip (nope_b rfl rfl hg1) (by simp only [nput]; rfl) ?_)
            refine TL.vE (Val.pickF rfl rfl hg1 rfl) ?_
            refine TL.vE (Val.assign 1 rfl rfl) ?_
            refine TL.nil ?_
            show TC _ _ _ _ _ _
            refine TC.cond rfl (fun hb => absurd hb (by simp)) (fun hb => ?_)
            refine TC.seq ?_
            have h80 := hb
            first | (obtain rfl : qa = none := by cases qa <;> simp at hg1 <;> rfl) | skip
            refine TC.region ?_
            refine TL.vE (Val.move 1 rfl rfl) ?_
            refine TL.vE (Val.move 1 rfl rfl) ?_
            refine TL.guardE rfl rfl rfl (by first | exact Val.field rfl rfl rfl | exact Val.fieldC rfl rfl rfl) (by simp only [nput, npf, Nat.reduceAdd]; rfl) ?_
            refine TL.guardE rfl rfl rfl (by first | exact Val.load rfl rfl rfl rfl rfl | exact Val.loadC rfl rfl rfl) (by simp only [nput, valC]; rfl) ?_
            refine TL.gE rfl rfl (by first | exact Val.len rfl rfl rfl rfl | exact Val.lenS rfl rfl rfl) ?_
            refine TL.gE rfl rfl (Val.gtr rfl rfl rfl) ?_
            refine TL.vE (Val.pickF rfl rfl rfl rfl) ?_
            refine TL.vE (Val.move 1 rfl rfl) ?_
            refine TL.splitG 7 rfl (fun hg7 => ?_) (fun hg7 => ?_)
            · iterate 7 (refine TL.skip (nope_b rfl rfl hg7) (by simp only [nput]; rfl) ?_)
              refine TL.vE (Val.pickT rfl rfl hg7 rfl) ?_
              refine TL.vE (Val.assign 1 rfl rfl) ?_
              refine TL.nil ?_
              show TC _ _ _ _ _ _
              refine TC.cond rfl (fun hb => ?_) (fun hb => absurd hb (by simp))
              refine TC.seq ?_
              have h0 : readScript s = (noScript, (k : Int) + 1) := by rw [hyp.2.2]; exact read_off hl hq hns (by first | (rw [accept_act hqa]; simp at h80 ⊢; omega) | (rw [accept_late hqa (by intro e; rw [e] at hg7; simp at hg7)]) | (rw [← (begins_accept (ws := w0 :: wr) hqa hA).1]; simpa using hb))
              refine TC.region ?_
              refine TL.opK rfl fun K hK => ?_
              refine OpT.buildN (parts := []) (place := [(0, 1), (1, 1)]) (row' := [.sl 1 [], .sl 6 []]) rfl rfl rfl rfl rfl rfl rfl rfl rfl rfl rfl (by simp [fillC, refsD, refD, nextD]; rfl) ?_
              simp only [nrm, Nat.reduceBEq, Nat.reduceBNe, reduceIte]
              refine hK _ ?_
              clear hK K
              refine TL.vE (Val.move 1 rfl rfl) ?_
              refine TL.vE (Val.addO rfl rfl rfl) ?_
              refine TL.opK rfl fun K hK => ?_
              refine OpT.storeAgg rfl rfl rfl rfl rfl rfl (by simp [St.store1, St.storeAll, St.cellAt, St.isMem, St.root, St.wrote, St.kill, St.setRoot, TS.kill, TV.kill, C.kill, Rt.kill, hitR, hitP, shapeOf, setRow, setAt, rowAt, D.row, D.reRow, List.isPrefixOf]; rfl) ?_ -- None
              simp only [nrm, Nat.reduceBEq, Nat.reduceBNe, reduceIte]
              refine hK _ ?_
              clear hK K
              refine TL.vE (Val.assign 1 rfl rfl) ?_
              refine TL.nil ?_
              show TC _ _ _ _ _ _
              refine TC.ret ?_
              exact ⟨.inr rfl, [_, _], [_, _], _, rfl, by decide, rfl, by simp [refV, refC, valC, C.kill, hitR], rfl, (by simp only [RScr, h0]; rfl)⟩
            · have hA : sc.Acts = [] := by cases h : sc.Acts with | nil => rfl | cons x y => (exfalso; rw [h] at hg7; first | (simp at hg7; done) | (simp at hg7; omega))
              rw [hg7]
              have hg7 : false = false := rfl
              refine TL.gE rfl hg7 (Val.move 1 rfl rfl) ?_
              refine TL.gE rfl hg7 (Val.move 1 rfl rfl) ?_
              refine TL.gE rfl hg7 (Val.move 1 rfl rfl) ?_
              refine TL.gE rfl hg7 (by exact Val.index rfl rfl rfl rfl rfl rfl (by omega) (by simp; omega)) ?_
              refine TL.guardE rfl rfl hg7 (by exact Val.load rfl rfl rfl (by simp [St.cellAt, St.root, rowAt, setRow, setAt, D.row, D.reRow, listOf, List.getElem?_set_self', List.set_set, hl]; first | rfl | exact ⟨rfl, rfl⟩) rfl) (by simp only [nput, valC]; rfl) ?_
              refine TL.call2 (yes_some rfl rfl hg7) rfl rfl rfl rfl rfl rfl (spec_l38Begin_f sc hyp.2.1 l (w0 :: wr)) (bx := some 4) (.bx rfl) (by repeat first | exact .nil | refine GivesAll.cons (.c (.ro _)) ?_ | refine GivesAll.cons (.c (.hand rfl)) ?_ | refine GivesAll.cons (.c (.snap rfl (by first | assumption | exact w_InsS _ | exact w_InsSS _ | exact w_InsSSS _ | exact w_ActS _ | exact whole_map _ _ (fun w c hc => by simp only [D.row, List.mem_cons, List.not_mem_nil, or_false] at hc; subst hc; exact .v _)) rfl)) ?_ | refine GivesAll.cons (.ptr rfl) ?_ | refine GivesAll.cons (.cptr _) ?_ | refine GivesAll.cons (.fn _) ?_ | refine GivesAll.cons (.agg (by repeat first | exact .nil | refine GiveCs.cons (.ro _) ?_ | refine GiveCs.cons (.hand rfl) ?_ | refine GiveCs.cons (.snap rfl (by first | assumption | exact w_InsS _ | exact w_InsSS _ | exact w_InsSSS _ | exact w_ActS _ | exact whole_map _ _ (fun w c hc => by simp only [D.row, List.mem_cons, List.not_mem_nil, or_false] at hc; subst hc; exact .v _)) rfl) ?_)) ?_) rfl (by simp [St.handed, killR, killP, topOf, handRow, idxOf, St.put, TS.kill, TV.kill, C.kill, boxSrc, -Option.not_isSome]; rfl) ?_
              refine TL.gE rfl hg7 (Val.not rfl rfl) ?_
              refine TL.vE (Val.pickF rfl rfl hg7 rfl) ?_
              refine TL.vE (Val.assign 1 rfl rfl) ?_
              refine TL.nil ?_
              show TC _ _ _ _ _ _
              refine TC.cond rfl (fun hb => ?_) (fun hb => ?_)
              · have hk73 := hb
                refine TC.seq ?_
                have h0 : readScript s = (noScript, (k : Int) + 1) := by rw [hyp.2.2]; exact read_off hl hq hns (by first | (rw [accept_act hqa]; simp at h80 ⊢; omega) | (rw [accept_late hqa (by intro e; rw [e] at hg7; simp at hg7)]) | (rw [← (begins_accept (ws := w0 :: wr) hqa hA).1]; simpa using hb))
                refine TC.region ?_
                refine TL.opK rfl fun K hK => ?_
                refine OpT.buildN (parts := []) (place := [(0, 1), (1, 1)]) (row' := [.sl 1 [], .sl 6 []]) rfl rfl rfl rfl rfl rfl rfl rfl rfl rfl rfl (by simp [fillC, refsD, refD, nextD]; rfl) ?_
                simp only [nrm, Nat.reduceBEq, Nat.reduceBNe, reduceIte]
                refine hK _ ?_
                clear hK K
                refine TL.vE (Val.move 1 rfl rfl) ?_
                refine TL.vE (Val.addO rfl rfl rfl) ?_
                refine TL.opK rfl fun K hK => ?_
                refine OpT.storeAgg rfl rfl rfl rfl rfl rfl (by simp [St.store1, St.storeAll, St.cellAt, St.isMem, St.root, St.wrote, St.kill, St.setRoot, TS.kill, TV.kill, C.kill, Rt.kill, hitR, hitP, shapeOf, setRow, setAt, rowAt, D.row, D.reRow, List.isPrefixOf]; rfl) ?_ -- None
                simp only [nrm, Nat.reduceBEq, Nat.reduceBNe, reduceIte]
                refine hK _ ?_
                clear hK K
                refine TL.vE (Val.assign 1 rfl rfl) ?_
                refine TL.nil ?_
                show TC _ _ _ _ _ _
                refine TC.ret ?_
                exact ⟨.inr rfl, [_, _], [_, _], _, rfl, by decide, rfl, by simp [refV, refC, valC, C.kill, hitR], rfl, (by simp only [RScr, h0]; rfl)⟩
              have hk73 := hb
              refine TC.skip ?_
              show TC _ _ _ _ _ _
              refine TC.region ?_
              refine TL.vE (Val.move 1 rfl rfl) ?_
              refine TL.vE (Val.addO rfl rfl rfl) ?_
              refine TL.vE (Val.assign 1 rfl rfl) ?_
              refine TL.nil ?_
              first
              | (first | refine Seq.normal ⟨_, ?_, k + 1, (begins sc l (w0 :: wr)).1, ?_, rfl, ?_⟩ | refine Seq.normal (Q := fun _ _ => True) ⟨_, ?_, k + 1, (begins sc l (w0 :: wr)).1, ?_, rfl, ?_⟩
                 · omega
                 · (have h1 := begins_accept (ws := w0 :: wr) hqa hA; have h2 : (begins sc l (w0 :: wr)).2 = true := (by simpa using hb); exact ⟨by omega, small_begins hqa hA hyp.2.1 h2, by rw [hyp.2.2, h1.2 h2]; exact read_take hl hq hns (by rw [← h1.1]; exact h2)⟩)
                 · exact Can.too (.cons rfl rfl (.cons rfl rfl (.cons rfl rfl .nil))))
      · iterate 4 (refine TL.skip (nope_b rfl rfl hg1) (by simp only [nput]; rfl) ?_)
        iterate 5 (refine TL.skip (nope_u rfl rfl) (by simp only [nput]; rfl) ?_)
        refine TL.skip (nope_b rfl rfl hg1) (by simp only [nput]; rfl) ?_
        refine TL.vE (Val.pickF rfl rfl hg1 rfl) ?_
        refine TL.nil ?_
        show TC _ _ _ _ _ _
        refine TC.cond rfl (fun hb => absurd hb (by simp)) (fun hb => ?_)
        refine TC.skip ?_
        show TC _ _ _ _ _ _
        refine TC.seq ?_
        first | (obtain rfl : q = none := by cases q <;> simp at hg1 <;> rfl) | (have hns : skipW (w0 :: wr) = false := by simp [skipW, hc.2]; intro e; subst e; simp at hb)
        obtain ⟨qa, hqa⟩ : ∃ x, readAct l = x := ⟨_, rfl⟩
        refine TC.region ?_
        refine TL.vE (Val.move 1 rfl rfl) ?_
        refine TL.vE (Val.move 1 rfl rfl) ?_
        refine TL.vE (by exact Val.index rfl rfl rfl rfl rfl rfl (by omega) (by simp; omega)) ?_
        refine TL.valE rfl (by exact Val.load rfl rfl rfl (by simp [St.cellAt, St.root, rowAt, setRow, setAt, D.row, D.reRow, listOf, List.getElem?_set_self', List.set_set, hl]; first | rfl | exact ⟨rfl, rfl⟩) rfl) (by simp only [nput, valC]; rfl) ?_
        refine TL.opK rfl fun K hK => ?_
        refine OpT.callG rfl rfl rfl rfl rfl rfl ((spec_ReadAct_q hqa).k) (by repeat first | exact .nil | refine Snaps.cons (.ro _) ?_ | refine Snaps.cons (.aggRo rfl) ?_ | refine Snaps.cons (.cptr _) ?_ | refine Snaps.cons (.fn _) ?_ | refine Snaps.cons (.ownRef rfl (by first | assumption | exact w_InsS _ | exact w_InsSS _ | exact w_InsSSS _ | exact w_ActS _ | exact whole_map _ _ (fun w c hc => by simp only [D.row, List.mem_cons, List.not_mem_nil, or_false] at hc; subst hc; exact .v _))) ?_ | refine Snaps.cons (.aggR (by repeat first | exact .nil | refine SnapCs.cons (.ro _) ?_ | refine SnapCs.cons (.ref rfl (by first | assumption | exact w_InsS _ | exact w_InsSS _ | exact w_InsSSS _ | exact w_ActS _ | exact whole_map _ _ (fun w c hc => by simp only [D.row, List.mem_cons, List.not_mem_nil, or_false] at hc; subst hc; exact .v _))) ?_)) ?_) rfl ?_
        simp only [nrm, Nat.reduceBEq, Nat.reduceBNe, reduceIte]
        refine hK _ ?_
        clear hK K
        refine TL.vE (Val.move 1 rfl rfl) ?_
        refine TL.vE (Val.extract rfl rfl rfl) ?_
        refine TL.vE (Val.extract rfl rfl rfl) ?_
        refine TL.opK rfl fun K hK => ?_
        refine OpT.alloc rfl rfl rfl rfl rfl rfl ?_
        simp only [nrm, Nat.reduceBEq, Nat.reduceBNe, reduceIte]
        refine hK _ ?_
        clear hK K
        refine TL.opK rfl fun K hK => ?_
        refine OpT.storeAgg rfl rfl rfl rfl rfl rfl (by simp [St.store1, St.storeAll, St.cellAt, St.isMem, St.root, St.wrote, St.kill, St.setRoot, TS.kill, TV.kill, C.kill, Rt.kill, hitR, hitP, shapeOf, setRow, setAt, rowAt, D.row, D.reRow, List.isPrefixOf]; rfl) ?_ -- None
        simp only [nrm, Nat.reduceBEq, Nat.reduceBNe, reduceIte]
        refine hK _ ?_
        clear hK K
        refine TL.vE (Val.assign 1 rfl rfl) ?_
        refine TL.nil ?_
        show TC _ _ _ _ _ _
        refine TC.block ?_
        refine TC.seq ?_
        refine TC.region ?_
        refine TL.vE (Val.move 1 rfl rfl) ?_
        refine TL.vE (Val.not rfl rfl) ?_
        refine TL.vE (Val.assign 1 rfl rfl) ?_
        refine TL.nil ?_
        show TC _ _ _ _ _ _
        refine TC.cond rfl (fun hb => ?_) (fun hb => absurd hb (by simp))
        refine TC.seq ?_
        have h0 : readScript s = (noScript, (k : Int) + 1) := by rw [hyp.2.2]; exact read_bad hl hq
        refine TC.region ?_
        refine TL.opK rfl fun K hK => ?_
        refine OpT.buildN (parts := []) (place := [(0, 1), (1, 1)]) (row' := [.sl 1 [], .sl 6 []]) rfl rfl rfl rfl rfl rfl rfl rfl rfl rfl rfl (by simp [fillC, refsD, refD, nextD]; rfl) ?_
        simp only [nrm, Nat.reduceBEq, Nat.reduceBNe, reduceIte]
        refine hK _ ?_
        clear hK K
        refine TL.vE (Val.move 1 rfl rfl) ?_
        refine TL.vE (Val.addO rfl rfl rfl) ?_
        refine TL.opK rfl fun K hK => ?_
        refine OpT.storeAgg rfl rfl rfl rfl rfl rfl (by simp [St.store1, St.storeAll, St.cellAt, St.isMem, St.root, St.wrote, St.kill, St.setRoot, TS.kill, TV.kill, C.kill, Rt.kill, hitR, hitP, shapeOf, setRow, setAt, rowAt, D.row, D.reRow, List.isPrefixOf]; rfl) ?_ -- None
        simp only [nrm, Nat.reduceBEq, Nat.reduceBNe, reduceIte]
        refine hK _ ?_
        clear hK K
        refine TL.vE (Val.assign 1 rfl rfl) ?_
        refine TL.nil ?_
        show TC _ _ _ _ _ _
        refine TC.ret ?_
        exact ⟨.inr rfl, [_, _], [_, _], _, rfl, by decide, rfl, by simp [refV, refC, valC, C.kill, hitR], rfl, (by simp only [RScr, h0]; rfl)⟩
    have hk21 := hb
    refine TC.exit ?_
    show TC _ _ _ _ _ _
    refine TC.seq ?_
    refine TC.seq ?_
    have hke : (linesOf s).length ≤ k := by simp at hb; omega
    have hfin := hyp.2.2
    rw [read_end hke] at hfin
    have hkn : k = (linesOf s).length := by omega
    refine TC.region ?_
    refine TL.valE rfl (by first | exact Val.loadCAgg (n := 2) rfl rfl rfl rfl (Nat.le_of_ble_eq_true rfl) | exact Val.loadAgg (n := 2) rfl rfl rfl rfl (by simp [St.cellsAt, St.cellAt, St.root, valC]; rfl) rfl | exact Val.loadAgg (n := 2) rfl rfl rfl rfl rfl rfl) (by simp only [St.put, List.set_cons_succ, List.set_cons_zero, valC, dScript, rScript, D.row, List.take_succ_cons, List.take_zero, List.map_cons, List.map_nil]; rfl) ?_
    refine TL.callF (yes_none rfl) rfl rfl rfl rfl rfl rfl ((spec_ScriptOk_f sc).k) (by repeat first | exact .nil | refine Snaps.cons (.ro _) ?_ | refine Snaps.cons (.aggRo rfl) ?_ | refine Snaps.cons (.cptr _) ?_ | refine Snaps.cons (.fn _) ?_ | refine Snaps.cons (.ownRef rfl (by first | assumption | exact w_InsS _ | exact w_InsSS _ | exact w_InsSSS _ | exact w_ActS _ | exact whole_map _ _ (fun w c hc => by simp only [D.row, List.mem_cons, List.not_mem_nil, or_false] at hc; subst hc; exact .v _))) ?_ | refine Snaps.cons (.aggR (by repeat first | exact .nil | refine SnapCs.cons (.ro _) ?_ | refine SnapCs.cons (.ref rfl (by first | assumption | exact w_InsS _ | exact w_InsSS _ | exact w_InsSSS _ | exact w_ActS _ | exact whole_map _ _ (fun w c hc => by simp only [D.row, List.mem_cons, List.not_mem_nil, or_false] at hc; subst hc; exact .v _))) ?_)) ?_) rfl (by simp only [nput]; rfl) ?_
    refine TL.vE (Val.not rfl rfl) ?_
    refine TL.nil ?_
    show TC _ _ _ _ _ _
    refine TC.cond rfl (fun hb => ?_) (fun hb => ?_)
    · have hk95 := hb
      refine TC.seq ?_
      have h0 : readScript s = (noScript, ((linesOf s).length : Int) + 1) := by rw [hfin, if_neg (by simpa using hb), hkn]
      refine TC.region ?_
      refine TL.opK rfl fun K hK => ?_
      refine OpT.buildN (parts := []) (place := [(0, 1), (1, 1)]) (row' := [.sl 1 [], .sl 6 []]) rfl rfl rfl rfl rfl rfl rfl rfl rfl rfl rfl (by simp [fillC, refsD, refD, nextD]; rfl) ?_
      simp only [nrm, Nat.reduceBEq, Nat.reduceBNe, reduceIte]
      refine hK _ ?_
      clear hK K
      refine TL.vE (Val.move 1 rfl rfl) ?_
      refine TL.vE (by first | exact Val.len rfl rfl rfl rfl | exact Val.lenS rfl rfl rfl) ?_
      refine TL.vE (Val.addO rfl rfl rfl) ?_
      refine TL.opK rfl fun K hK => ?_
      refine OpT.storeAgg rfl rfl rfl rfl rfl rfl (by simp [St.store1, St.storeAll, St.cellAt, St.isMem, St.root, St.wrote, St.kill, St.setRoot, TS.kill, TV.kill, C.kill, Rt.kill, hitR, hitP, shapeOf, setRow, setAt, rowAt, D.row, D.reRow, List.isPrefixOf]; rfl) ?_ -- None
      simp only [nrm, Nat.reduceBEq, Nat.reduceBNe, reduceIte]
      refine hK _ ?_
      clear hK K
      refine TL.vE (Val.assign 1 rfl rfl) ?_
      refine TL.nil ?_
      show TC _ _ _ _ _ _
      refine TC.ret ?_
      exact ⟨.inr rfl, [_, _], [_, _], _, rfl, by decide, rfl, by simp [refV, refC, valC, C.kill, hitR], rfl, (by simp only [RScr, h0, List.length_map]; rfl)⟩
    have hk95 := hb
    refine TC.skip ?_
    show TC _ _ _ _ _ _
    refine TC.seq ?_
    have h0 : readScript s = (sc, 0) := by rw [hfin, if_pos (by simpa using hb)]
    refine TC.region ?_
    refine TL.valE rfl (by first | exact Val.loadCAgg (n := 2) rfl rfl rfl rfl (Nat.le_of_ble_eq_true rfl) | exact Val.loadAgg (n := 2) rfl rfl rfl rfl (by simp [St.cellsAt, St.cellAt, St.root, valC]; rfl) rfl | exact Val.loadAgg (n := 2) rfl rfl rfl rfl rfl rfl) (by simp only [St.put, List.set_cons_succ, List.set_cons_zero, valC, dScript, rScript, D.row, List.take_succ_cons, List.take_zero, List.map_cons, List.map_nil]; rfl) ?_
    refine TL.opK rfl fun K hK => ?_
    refine OpT.storeAgg rfl rfl rfl rfl rfl rfl (by simp [St.store1, St.storeAll, St.cellAt, St.isMem, St.root, St.wrote, St.kill, St.setRoot, TS.kill, TV.kill, C.kill, Rt.kill, hitR, hitP, shapeOf, setRow, setAt, rowAt, D.row, D.reRow, List.isPrefixOf]; rfl) ?_ -- None
    simp only [nrm, Nat.reduceBEq, Nat.reduceBNe, reduceIte]
    refine hK _ ?_
    clear hK K
    refine TL.vE (Val.assign 1 rfl rfl) ?_
    refine TL.nil ?_
    show TC _ _ _ _ _ _
    refine TC.ret ?_
    exact ⟨.inr rfl, [_, _], [_, _], _, rfl, by decide, rfl, by simp [refV, refC, valC, C.kill, hitR], rfl, (by simp only [RScr, h0]; rfl)⟩
end Go.Proofs.YtfbjcdhphhfpfaaGreatDoor.T

