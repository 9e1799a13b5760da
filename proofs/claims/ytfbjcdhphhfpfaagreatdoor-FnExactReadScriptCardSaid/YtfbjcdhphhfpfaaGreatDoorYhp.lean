/- Scripts read: the reference's l38Cut and l38Begin. PRINTED by gen.py out of spec_script5.py. -/
import Derived.Test.YtfbjcdhphhfpfaaGreatDoorT3p
import Derived.Test.YtfbjcdhphhfpfaaGreatDoorTzkp
import Derived.Test.YtfbjcdhphhfpfaaGreatDoorYgp
import Derived.Test.YtfbjcdhphhfpfaaGreatDoorWqp
import Derived.Test.YtfbjcdhphhfpfaaGreatDoorWtp
import Derived.Test.YtfbjcdhphhfpfaaGreatDoorWmp
namespace Go.Proofs.YtfbjcdhphhfpfaaGreatDoor.T
open Go
set_option linter.unusedVariables false
set_option linter.unusedSimpArgs false
set_option maxRecDepth 100000
set_option maxHeartbeats 1000000

theorem spec_l38Cut_f (s : ByteArray) (hs : s.size ≤ 12000) : Fun Tryz.prog 9 [S s] (RL 1 ((linesOf s).map fun w => .v (.string w))) := by
  refine Fun.of Tryz.func9 rfl (by simp [Tryz.ntmps9]) fun w g0 => ?_
  simp only [Tryz.ntmps9, List.length_cons, List.length_nil, Nat.reduceAdd, Nat.reduceSub, List.replicate, List.cons_append, List.nil_append]
  refine TC.seq ?_
  refine TC.region ?_
  refine TL.vE (Val.assign 1 rfl rfl) ?_
  refine TL.nil ?_
  show TC _ _ _ _ _ _
  refine TC.seq ?_
  refine TC.region ?_
  refine TL.opK rfl fun K hK => ?_
  refine OpT.build0 (sz := 1) rfl rfl rfl rfl ?_
  simp only [nrm, Nat.reduceBEq, Nat.reduceBNe, reduceIte]
  refine hK _ ?_
  clear hK K
  refine TL.vE (Val.assign 1 rfl rfl) ?_
  refine TL.nil ?_
  show TC _ _ _ _ _ _
  refine TC.seq ?_
  refine TC.region ?_
  refine TL.vE (Val.assign 1 rfl rfl) ?_
  refine TL.nil ?_
  show TC _ _ _ _ _ _
  refine TC.seq ?_
  refine TC.seq ?_
  refine TC.region ?_
  refine TL.vE (Val.assign 1 rfl rfl) ?_
  refine TL.nil ?_
  show TC _ _ _ _ _ _
  refine TC.block ?_
  refine TC.loop (fun μ st => ∃ (i b : Nat) (W : List ByteArray), (i ≤ s.size + 1 ∧ cutTo s i = (W, b)) ∧ μ = s.size + 1 - i ∧ Can st ⟨[S s, .one .dead, .one .dead, .one (.c (.ref ⟨3, [], 0⟩)), I b, I i, .one .dead, .one .dead, .one .dead, .one .dead, .one .dead, .one .dead, .one .dead, .one .dead, .one .dead, .one .dead, .one .dead, .one .dead, .one .dead, .one .dead, .one .dead, .one .dead, .one .dead, .one .dead, .one .dead, .one .dead, .one .dead, .one .dead, .one .dead, .one .dead, .one .dead, .one .dead, .one .dead], [(3, ⟨false, [.own (.sl 1 (W.map fun w => .v (.string w)))]⟩)]⟩) (s.size + 1) ?_ fun μ st hI => ?_
  · refine ⟨0, 0, [], ⟨by omega, rfl⟩, by simp, ?_⟩
    exact Can.name 6 3 (by simp only [St.name, nameS, nameV, nameC, nameR, List.map_cons, List.map_nil, Nat.reduceEqDiff, if_true, if_false, ne_eq, not_true, not_false, and_true, and_false, true_and, false_and, reduceIte]; rfl) (Can.too (.cons rfl (by simp [elD, cellD]) .nil))
  · obtain ⟨i, b, W, hyp, rfl, hcan⟩ := hI
    refine TC.can hcan ?_
    clear hcan
    refine TC.seq ?_
    refine TC.seq ?_
    refine TC.region ?_
    refine TL.vE (Val.move 1 rfl rfl) ?_
    refine TL.vE (Val.move 1 rfl rfl) ?_
    refine TL.vE (by first | exact Val.len rfl rfl rfl rfl | exact Val.lenS rfl rfl rfl) ?_
    refine TL.vE (Val.leq rfl rfl rfl) ?_
    refine TL.nil ?_
    show TC _ _ _ _ _ _
    refine TC.cond rfl (fun hb => ?_) (fun hb => ?_)
    · have hk10 := hb
      refine TC.skip ?_
      show TC _ _ _ _ _ _
      refine TC.seq ?_
      refine TC.block ?_
      refine TC.seq ?_
      have hi : i ≤ s.size := by simp at hb; omega
      obtain ⟨c, hc⟩ := byte_at s i
      have hwl := cutTo_le s i
      rw [hyp.2] at hwl
      simp only at hwl
      refine TC.region ?_
      refine TL.vE (Val.move 1 rfl rfl) ?_
      refine TL.vE (Val.move 1 rfl rfl) ?_
      refine TL.vE (by first | exact Val.len rfl rfl rfl rfl | exact Val.lenS rfl rfl rfl) ?_
      refine TL.vE (Val.eql rfl rfl rfl) ?_
      refine TL.vE (Val.move 1 rfl rfl) ?_
      refine TL.splitG 4 rfl (fun hg4 => ?_) (fun hg4 => ?_)
      · iterate 4 (refine TL.skip (nope_b rfl rfl hg4) (by simp only [nput]; rfl) ?_)
        refine TL.vE (Val.pickT rfl rfl hg4 rfl) ?_
        refine TL.nil ?_
        show TC _ _ _ _ _ _
        refine TC.cond rfl (fun hb => ?_) (fun hb => absurd hb (by simp))
        refine TC.seq ?_
        refine TC.region ?_
        refine TL.vE (Val.move 1 rfl rfl) ?_
        refine TL.vE (Val.move 1 rfl rfl) ?_
        refine TL.vE (Val.move 1 rfl rfl) ?_
        refine TL.vE (Val.move 1 rfl rfl) ?_
        refine TL.vE (Val.sliceS rfl rfl rfl rfl rfl (by omega) (by omega) (by simp; omega)) ?_
        refine TL.opK rfl fun K hK => ?_
        refine OpT.buildP rfl rfl (xs := [(Go.Operand.tmp 27)]) rfl rfl rfl rfl (sz := 1) rfl rfl rfl (by decide) (by decide) ?_
        simp only [nrm, Nat.reduceBEq, Nat.reduceBNe, reduceIte]
        refine hK _ ?_
        clear hK K
        refine TL.opK rfl fun K hK => ?_
        refine OpT.appendE rfl rfl rfl (sz := 1) rfl rfl rfl (by simp [isPlain, D.row, elD, cellD]) rfl rfl rfl rfl rfl rfl rfl (by simp; try omega) ?_
        simp only [nrm, Nat.reduceBEq, Nat.reduceBNe, reduceIte]
        refine hK _ ?_
        clear hK K
        refine TL.vE (Val.assign 1 rfl rfl) ?_
        refine TL.nil ?_
        show TC _ _ _ _ _ _
        refine TC.region ?_
        refine TL.vE (Val.move 1 rfl rfl) ?_
        refine TL.vE (Val.addO rfl rfl rfl) ?_
        refine TL.vE (Val.assign 1 rfl rfl) ?_
        refine TL.nil ?_
        show TC _ _ _ _ _ _
        refine TC.region ?_
        refine TL.vE (Val.move 1 rfl rfl) ?_
        refine TL.vE (Val.addO rfl rfl rfl) ?_
        refine TL.vE (Val.assign 1 rfl rfl) ?_
        refine TL.nil ?_
        first
        | (exfalso; first | (simp at hg4 hb; done) | (simp only [nso, List.length_map, inR] at *; omega))
        | (first | refine Seq.normal ⟨_, ?_, i + 1, b, W, ?_, rfl, ?_⟩ | refine Seq.normal (Q := fun _ _ => True) ⟨_, ?_, i + 1, b, W, ?_, rfl, ?_⟩
           · omega
           · exact ⟨by omega, cut_stay hyp.2 (by rw [nlAt_is hc]; simp only [nso, List.length_map, inR] at *; omega)⟩
           · exact Can.too (.cons rfl rfl .nil))
        | (first | refine Seq.normal ⟨_, ?_, i + 1, i + 1, W ++ [s.extract b i], ?_, rfl, ?_⟩ | refine Seq.normal (Q := fun _ _ => True) ⟨_, ?_, i + 1, i + 1, W ++ [s.extract b i], ?_, rfl, ?_⟩
           · omega
           · exact ⟨by omega, cut_hit hyp.2 (by rw [nlAt_is hc]; simp only [nso, List.length_map, inR] at *; omega)⟩
           · exact Can.name 29 3 (by simp only [St.name, nameS, nameV, nameC, nameR, List.map_cons, List.map_nil, Nat.reduceEqDiff, if_true, if_false, ne_eq, not_true, not_false, and_true, and_false, true_and, false_and, reduceIte]; rfl) (Can.too (.cons rfl (by simp [elD, cellD]) .nil)))
      · refine TL.gE rfl hg4 (Val.move 1 rfl rfl) ?_
        refine TL.gE rfl hg4 (Val.move 1 rfl rfl) ?_
        refine TL.gE rfl hg4 (by exact Val.indexS rfl rfl rfl rfl (by omega) (hc (by have h4 := hg4; simp only [decide_eq_false_iff_not, beq_eq_false_iff_ne, ne_eq] at h4; omega)).1) ?_
        refine TL.gE rfl hg4 (Val.eql rfl rfl rfl) ?_
        refine TL.vE (Val.pickF rfl rfl hg4 rfl) ?_
        refine TL.nil ?_
        show TC _ _ _ _ _ _
        refine TC.cond rfl (fun hb => ?_) (fun hb => ?_)
        · have hk22 := hb
          refine TC.seq ?_
          refine TC.region ?_
          refine TL.vE (Val.move 1 rfl rfl) ?_
          refine TL.vE (Val.move 1 rfl rfl) ?_
          refine TL.vE (Val.move 1 rfl rfl) ?_
          refine TL.vE (Val.move 1 rfl rfl) ?_
          refine TL.vE (Val.sliceS rfl rfl rfl rfl rfl (by omega) (by omega) (by simp; omega)) ?_
          refine TL.opK rfl fun K hK => ?_
          refine OpT.buildP rfl rfl (xs := [(Go.Operand.tmp 27)]) rfl rfl rfl rfl (sz := 1) rfl rfl rfl (by decide) (by decide) ?_
          simp only [nrm, Nat.reduceBEq, Nat.reduceBNe, reduceIte]
          refine hK _ ?_
          clear hK K
          refine TL.opK rfl fun K hK => ?_
          refine OpT.appendE rfl rfl rfl (sz := 1) rfl rfl rfl (by simp [isPlain, D.row, elD, cellD]) rfl rfl rfl rfl rfl rfl rfl (by simp; try omega) ?_
          simp only [nrm, Nat.reduceBEq, Nat.reduceBNe, reduceIte]
          refine hK _ ?_
          clear hK K
          refine TL.vE (Val.assign 1 rfl rfl) ?_
          refine TL.nil ?_
          show TC _ _ _ _ _ _
          refine TC.region ?_
          refine TL.vE (Val.move 1 rfl rfl) ?_
          refine TL.vE (Val.addO rfl rfl rfl) ?_
          refine TL.vE (Val.assign 1 rfl rfl) ?_
          refine TL.nil ?_
          show TC _ _ _ _ _ _
          refine TC.region ?_
          refine TL.vE (Val.move 1 rfl rfl) ?_
          refine TL.vE (Val.addO rfl rfl rfl) ?_
          refine TL.vE (Val.assign 1 rfl rfl) ?_
          refine TL.nil ?_
          first
          | (exfalso; first | (simp at hg4 hb; done) | (simp only [nso, List.length_map, inR] at *; omega))
          | (first | refine Seq.normal ⟨_, ?_, i + 1, b, W, ?_, rfl, ?_⟩ | refine Seq.normal (Q := fun _ _ => True) ⟨_, ?_, i + 1, b, W, ?_, rfl, ?_⟩
             · omega
             · exact ⟨by omega, cut_stay hyp.2 (by rw [nlAt_is hc]; simp only [nso, List.length_map, inR] at *; omega)⟩
             · exact Can.too (.cons rfl rfl .nil))
          | (first | refine Seq.normal ⟨_, ?_, i + 1, i + 1, W ++ [s.extract b i], ?_, rfl, ?_⟩ | refine Seq.normal (Q := fun _ _ => True) ⟨_, ?_, i + 1, i + 1, W ++ [s.extract b i], ?_, rfl, ?_⟩
             · omega
             · exact ⟨by omega, cut_hit hyp.2 (by rw [nlAt_is hc]; simp only [nso, List.length_map, inR] at *; omega)⟩
             · exact Can.name 29 3 (by simp only [St.name, nameS, nameV, nameC, nameR, List.map_cons, List.map_nil, Nat.reduceEqDiff, if_true, if_false, ne_eq, not_true, not_false, and_true, and_false, true_and, false_and, reduceIte]; rfl) (Can.too (.cons rfl (by simp [elD, cellD]) .nil)))
        have hk22 := hb
        refine TC.skip ?_
        show TC _ _ _ _ _ _
        refine TC.region ?_
        refine TL.vE (Val.move 1 rfl rfl) ?_
        refine TL.vE (Val.addO rfl rfl rfl) ?_
        refine TL.vE (Val.assign 1 rfl rfl) ?_
        refine TL.nil ?_
        first
        | (exfalso; first | (simp at hg4 hb; done) | (simp only [nso, List.length_map, inR] at *; omega))
        | (first | refine Seq.normal ⟨_, ?_, i + 1, b, W, ?_, rfl, ?_⟩ | refine Seq.normal (Q := fun _ _ => True) ⟨_, ?_, i + 1, b, W, ?_, rfl, ?_⟩
           · omega
           · exact ⟨by omega, cut_stay hyp.2 (by rw [nlAt_is hc]; simp only [nso, List.length_map, inR] at *; omega)⟩
           · exact Can.too (.cons rfl rfl .nil))
        | (first | refine Seq.normal ⟨_, ?_, i + 1, i + 1, W ++ [s.extract b i], ?_, rfl, ?_⟩ | refine Seq.normal (Q := fun _ _ => True) ⟨_, ?_, i + 1, i + 1, W ++ [s.extract b i], ?_, rfl, ?_⟩
           · omega
           · exact ⟨by omega, cut_hit hyp.2 (by rw [nlAt_is hc]; simp only [nso, List.length_map, inR] at *; omega)⟩
           · exact Can.name 29 3 (by simp only [St.name, nameS, nameV, nameC, nameR, List.map_cons, List.map_nil, Nat.reduceEqDiff, if_true, if_false, ne_eq, not_true, not_false, and_true, and_false, true_and, false_and, reduceIte]; rfl) (Can.too (.cons rfl (by simp [elD, cellD]) .nil)))
    have hk10 := hb
    refine TC.exit ?_
    show TC _ _ _ _ _ _
    refine TC.seq ?_
    have hie : i = s.size + 1 := by simp at hb; omega
    subst hie
    have hw := cutTo_all s
    rw [hyp.2] at hw
    simp only at hw
    subst hw
    refine TC.region ?_
    refine TL.vE (Val.move 1 rfl rfl) ?_
    refine TL.vE (Val.assign 1 rfl rfl) ?_
    refine TL.nil ?_
    show TC _ _ _ _ _ _
    refine TC.ret ?_
    exact ⟨.inr rfl, [_], [_], _, rfl, by decide, rfl, by simp [refV, refC, valC, C.kill, hitR], rfl, rfl⟩

theorem spec_ReadIns_q {s : ByteArray} {q : Option VIns} (h : readIns s = q) : Fun Tryz.prog 29 [S s] (RIns q) := h ▸ spec_ReadIns_f s
theorem spec_l38Begin_f (s : VScript) (hs : Small s) (line : ByteArray) (ws : List ByteArray) : Fun2 Tryz.prog 12 (⟨true, rScript s⟩) [.one (.ptr ⟨1000001, [], 0⟩), L 1 (ws.map fun w => .v (.string w)), S line] (RP2 (rScript (begins s line ws).1) (B (begins s line ws).2)) := by
  refine Fun2.of Tryz.func12 rfl (by simp [Tryz.ntmps12]) fun w g0 => ?_
  simp only [Tryz.ntmps12, List.length_cons, List.length_nil, Nat.reduceAdd, Nat.reduceSub, List.replicate, List.cons_append, List.nil_append, Hand.k, pinK, pinB, if_true, if_false, Bool.false_eq_true, List.map_cons, List.map_nil]
  obtain ⟨qi, hqi⟩ : ∃ q, readIns line = q := ⟨_, rfl⟩
  obtain ⟨x0, hx0⟩ : ∃ x0, ws.length = 1 → ws = [x0] := by rcases ws with _ | ⟨x, _ | _⟩ <;> simp
  obtain ⟨hs1, hs2, hs3⟩ := hs
  refine TC.seq ?_
  refine TC.region ?_
  refine TL.vE (Val.assign 1 rfl rfl) ?_
  refine TL.nil ?_
  show TC _ _ _ _ _ _
  refine TC.seq ?_
  refine TC.region ?_
  refine TL.vE (Val.move 1 rfl rfl) ?_
  refine TL.vE (Val.nilPtr rfl rfl) ?_
  refine TL.fld ?_
  refine TL.ld ?_
  refine TL.vE (by first | exact Val.len rfl rfl rfl rfl | exact Val.lenS rfl rfl rfl) ?_
  refine TL.vE (Val.sub rfl rfl rfl (by first | omega | (simp only [List.length_map]; omega)) (by first | omega | (simp only [List.length_map]; omega))) ?_
  refine TL.vE (Val.assign 1 rfl rfl) ?_
  refine TL.nil ?_
  show TC _ _ _ _ _ _
  refine TC.seq ?_
  refine TC.seq ?_
  refine TC.region ?_
  refine TL.vE (Val.move 1 rfl rfl) ?_
  refine TL.vE (by first | exact Val.len rfl rfl rfl rfl | exact Val.lenS rfl rfl rfl) ?_
  refine TL.vE (Val.eql rfl rfl rfl) ?_
  refine TL.vE (Val.move 1 rfl rfl) ?_
  refine TL.splitG 3 rfl (fun hg3 => ?_) (fun hg3 => ?_)
  · refine TL.gE rfl hg3 (Val.move 1 rfl rfl) ?_
    refine TL.gE rfl hg3 (by exact Val.indexC (d := .v (.string x0)) rfl rfl rfl rfl rfl (by omega) (by simp [hx0 (by simp at hg3; omega)])) ?_
    refine TL.guardE rfl rfl hg3 (by first | exact Val.load rfl rfl rfl rfl rfl | exact Val.loadC rfl rfl rfl) (by simp only [nput, valC]; rfl) ?_
    refine TL.gE rfl hg3 (Val.eqlS rfl rfl rfl) ?_
    refine TL.vE (Val.pickT rfl rfl hg3 rfl) ?_
    refine TL.nil ?_
    show TC _ _ _ _ _ _
    refine TC.cond rfl (fun hb => ?_) (fun hb => ?_)
    · have hk25 := hb
      refine TC.seq ?_
      have hw : ws = [wMon] := by rw [hx0 (by simp at hg3; omega)]; rw [ba_beq] at hb; simpa using hb
      refine TC.take 1000001 0 3000 (by simp [St.take, St.root, St.fresh, St.kill, St.setRoot, TS.kill, TV.kill, C.kill, Rt.kill]; rfl) ?_
      refine TC.region ?_
      refine TL.vE (Val.move 1 rfl rfl) ?_
      refine TL.vE (Val.move 1 rfl rfl) ?_
      refine TL.vE (Val.nilPtr rfl rfl) ?_
      refine TL.fld ?_
      refine TL.ld ?_
      refine TL.opK rfl fun K hK => ?_
      refine OpT.build0 (sz := 1) rfl rfl rfl rfl ?_
      simp only [nrm, Nat.reduceBEq, Nat.reduceBNe, reduceIte]
      refine hK _ ?_
      clear hK K
      refine TL.opK rfl fun K hK => ?_
      refine OpT.build1 rfl rfl (z := 0) rfl rfl rfl rfl rfl (by decide) (by decide) (by simp [St.adopt, cellsV, elD, cellD, St.renew, St.store1, St.storeAll, St.cellAt, St.isMem, St.root, St.wrote, St.kill, St.setRoot, TS.kill, TV.kill, C.kill, Rt.kill, hitR, hitP, shapeOf, setRow, setAt, rowAt, D.row, D.reRow, List.isPrefixOf]; rfl) ?_
      simp only [nrm, Nat.reduceBEq, Nat.reduceBNe, reduceIte]
      refine hK _ ?_
      clear hK K
      refine TL.opK rfl fun K hK => ?_
      refine OpT.appendOE rfl rfl rfl rfl rfl rfl (by decide) (by simp [D.row]) rfl rfl rfl rfl rfl rfl rfl (by simp; omega) ?_
      simp only [nrm, Nat.reduceBEq, Nat.reduceBNe, reduceIte]
      refine hK _ ?_
      clear hK K
      refine TL.vE (Val.nilPtr rfl rfl) ?_
      refine TL.fld ?_
      refine TL.opK rfl fun K hK => ?_
      refine OpT.store (z := 1) rfl rfl rfl rfl rfl rfl (by simp [St.store1, St.storeAll, St.cellAt, St.isMem, St.root, St.wrote, St.kill, St.setRoot, TS.kill, TV.kill, C.kill, Rt.kill, hitR, hitP, shapeOf, setRow, setAt, rowAt, D.row, D.reRow, List.isPrefixOf]; rfl) ?_ -- None
      simp only [nrm, Nat.reduceBEq, Nat.reduceBNe, reduceIte]
      refine hK _ ?_
      clear hK K
      refine TL.nil ?_
      show TC _ _ _ _ _ _
      refine TC.seq ?_
      refine TC.region ?_
      refine TL.vE (Val.move 1 rfl rfl) ?_
      refine TL.vE (Val.addO rfl rfl rfl) ?_
      refine TL.vE (Val.lss rfl rfl rfl) ?_
      refine TL.vE (Val.assign 1 rfl rfl) ?_
      refine TL.nil ?_
      show TC _ _ _ _ _ _
      refine TC.ret ?_
      exact ⟨.inr rfl, [_], [_], _, [.sl 1 (s.All.map dInsSS ++ [.sl 1 []]), .sl 6 (s.Acts.map dAct)], rfl, by decide, rfl, by simp [refV, refC, valC, C.kill, hitR], rfl, rfl, by simp, rfl, ⟨(by rw [begins_mon hw] <;> first | rfl | (simp; done) | (simp only [rScript, dInsSS, dInsS, List.map_set, List.map_append, List.map_cons, List.map_nil]; done) | (simp only [rScript, dInsSS, dInsS, List.map_set, List.map_append, List.map_cons, List.map_nil]; rfl)), resV (by rw [begins_mon hw] <;> first | rfl | (simp; done) | (simp; omega))⟩⟩
    have hk25 := hb
    refine TC.skip ?_
    show TC _ _ _ _ _ _
    refine TC.seq ?_
    refine TC.seq ?_
    have hw : ws ≠ [wMon] := by intro e; first | (rw [e] at hg3; simp at hg3; done) | (have h1 := hx0 (by rw [e]; rfl); rw [e] at h1; rw [ba_beq] at hb; simp only [List.cons.injEq, and_true] at h1; rw [← h1] at hb; simp at hb)
    refine TC.region ?_
    refine TL.vE (Val.move 1 rfl rfl) ?_
    refine TL.vE (Val.lss rfl rfl rfl) ?_
    refine TL.nil ?_
    show TC _ _ _ _ _ _
    refine TC.cond rfl (fun hb => ?_) (fun hb => ?_)
    · have hk40 := hb
      refine TC.seq ?_
      have hA : s.All = [] := by cases h : s.All with | nil => rfl | cons x l => (exfalso; rw [h] at hb; simp at hb; omega)
      refine TC.region ?_
      refine TL.vE (Val.assign 1 rfl rfl) ?_
      refine TL.nil ?_
      show TC _ _ _ _ _ _
      refine TC.ret ?_
      exact ⟨.inr rfl, [_], [_], _, rScript s, rfl, by decide, rfl, by simp [refV, refC, valC, C.kill, hitR], rfl, rfl, by simp, rfl, ⟨(by rw [begins_none hw hA] <;> first | rfl | (simp; done) | (simp only [rScript, dInsSS, dInsS, List.map_set, List.map_append, List.map_cons, List.map_nil]; done) | (simp only [rScript, dInsSS, dInsS, List.map_set, List.map_append, List.map_cons, List.map_nil]; rfl)), resV (by rw [begins_none hw hA] <;> first | rfl | (simp; done) | (simp; omega))⟩⟩
    have hk40 := hb
    refine TC.skip ?_
    show TC _ _ _ _ _ _
    refine TC.seq ?_
    obtain ⟨m, hm⟩ : ∃ m, s.All.length = m + 1 := by cases h : s.All with | nil => (rw [h] at hb; simp at hb) | cons x l => exact ⟨l.length, rfl⟩
    obtain ⟨g, hg⟩ := at_of (xs := s.All) (k := m) (by omega)
    have hm1 : (((s.All.map dInsSS).length : Nat) : Int) - 1 = (m : Int) := by simp; omega
    have hgl := hs3 g (List.mem_of_getElem? hg)
    rw [hm1]
    refine TC.region ?_
    refine TL.vE (Val.move 1 rfl rfl) ?_
    refine TL.vE (Val.nilPtr rfl rfl) ?_
    refine TL.fld ?_
    refine TL.ld ?_
    refine TL.vE (Val.move 1 rfl rfl) ?_
    refine TL.vE (by exact Val.index rfl rfl rfl rfl rfl rfl (by omega) (by simp; omega)) ?_
    refine TL.valE rfl (by exact Val.load rfl rfl rfl (by simp [St.cellAt, St.root, rowAt, setRow, setAt, D.row, D.reRow, listOf, List.getElem?_set_self', List.set_set, hg]; first | rfl | exact ⟨rfl, rfl⟩) rfl) (by simp only [nput, valC]; rfl) ?_
    refine TL.vE (by exact Val.len rfl rfl (by simp [St.cellAt, St.root, rowAt, setRow, setAt, D.row, D.reRow, listOf, List.getElem?_set_self', List.set_set, hg]; first | rfl | exact ⟨rfl, rfl⟩) rfl) ?_
    refine TL.vE (Val.sub rfl rfl rfl (by first | omega | (simp only [List.length_map]; omega)) (by first | omega | (simp only [List.length_map]; omega))) ?_
    refine TL.vE (Val.assign 1 rfl rfl) ?_
    refine TL.nil ?_
    show TC _ _ _ _ _ _
    refine TC.seq ?_
    refine TC.seq ?_
    refine TC.region ?_
    refine TL.vE (Val.move 1 rfl rfl) ?_
    refine TL.vE (by first | exact Val.len rfl rfl rfl rfl | exact Val.lenS rfl rfl rfl) ?_
    refine TL.vE (Val.eql rfl rfl rfl) ?_
    refine TL.vE (Val.move 1 rfl rfl) ?_
    refine TL.splitG 3 rfl (fun hg3 => ?_) (fun hg3 => ?_)
    · refine TL.gE rfl hg3 (Val.move 1 rfl rfl) ?_
      refine TL.gE rfl hg3 (by exact Val.indexC (d := .v (.string x0)) rfl rfl rfl rfl rfl (by omega) (by simp [hx0 (by simp at hg3; omega)])) ?_
      refine TL.guardE rfl rfl hg3 (by first | exact Val.load rfl rfl rfl rfl rfl | exact Val.loadC rfl rfl rfl) (by simp only [nput, valC]; rfl) ?_
      refine TL.gE rfl hg3 (Val.eqlS rfl rfl rfl) ?_
      refine TL.vE (Val.pickT rfl rfl hg3 rfl) ?_
      refine TL.nil ?_
      show TC _ _ _ _ _ _
      refine TC.cond rfl (fun hb => ?_) (fun hb => ?_)
      · have hk58 := hb
        refine TC.seq ?_
        have hv : ws = [wGst] := by rw [hx0 (by simp at hg3; omega)]; rw [ba_beq] at hb; simpa using hb
        refine TC.regionV [14, 16] [14] [0] [(0, 2), (1, 2), (2, 2), (3, 2), (4, 2), (5, 0), (6, 0), (7, 0), (8, 0), (9, 0), (10, 0), (11, 0), (12, 1), (13, 1), (14, 1), (15, 0), (16, 1)] rfl (by decide +kernel) ?_
        refine TU.valS (by decide) rfl (yes_none rfl) (ValS.pure (Val.move 1 rfl rfl) rfl) (by simp only [nput]; rfl) ?_
        refine TU.valS (by decide) rfl (yes_none rfl) (ValS.nilPtr rfl rfl) (by simp only [nput]; rfl) ?_
        refine TU.valS (by decide) rfl (yes_none rfl) (by first | exact ValS.field rfl rfl rfl | exact ValS.fieldC rfl rfl rfl) (by simp only [nput, npf, Nat.reduceAdd]; rfl) ?_
        refine TU.valS (by decide) rfl (yes_none rfl) (by exact ValS.load rfl rfl 0 (by decide) rfl rfl (by simp [St.cellAt, St.root, rowAt, setRow, setAt, D.row, D.reRow, listOf, List.getElem?_set_self', List.set_set, hg]; first | rfl | exact ⟨rfl, rfl⟩) rfl) (by simp only [nput, valC]; rfl) ?_
        refine TU.valS (by decide) rfl (yes_none rfl) (ValS.pure (Val.move 1 rfl rfl) rfl) (by simp only [nput]; rfl) ?_
        refine TU.valE (by decide) rfl (yes_none rfl) (Val.move 1 rfl rfl) (by simp only [nput]; rfl) ?_
        refine TU.valE (by decide) rfl (yes_none rfl) (Val.nilPtr rfl rfl) (by simp only [nput]; rfl) ?_
        refine TU.valE (by decide) rfl (yes_none rfl) (by first | exact Val.field rfl rfl rfl | exact Val.fieldC rfl rfl rfl) (by simp only [nput, npf, Nat.reduceAdd]; rfl) ?_
        refine TU.valE (by decide) rfl (yes_none rfl) (by first | exact Val.load rfl rfl rfl rfl rfl | exact Val.loadC rfl rfl rfl) (by simp only [nput, valC]; rfl) ?_
        refine TU.valE (by decide) rfl (yes_none rfl) (Val.move 1 rfl rfl) (by simp only [nput]; rfl) ?_
        refine TU.valE (by decide) rfl (yes_none rfl) (by exact Val.index rfl rfl rfl rfl rfl (by simp [St.cellAt, St.root, rowAt, setRow, setAt, D.row, D.reRow, listOf, List.getElem?_set_self', List.set_set, hg]; first | rfl | exact ⟨rfl, rfl⟩) (by omega) (by simp; omega)) (by simp only [nput]; rfl) ?_
        refine TU.valE (by decide) rfl (yes_none rfl) (by exact Val.load rfl rfl rfl (by simp [St.cellAt, St.root, rowAt, setRow, setAt, D.row, D.reRow, listOf, List.getElem?_set_self', List.set_set, hg]; first | rfl | exact ⟨rfl, rfl⟩) rfl) (by simp only [nput, valC]; rfl) ?_
        refine TU.takeN 1000001 [(0, m)] 0 3000 (by simp [St.takeN, St.cellAt, rowAt, setRow, setAt, D.row, D.reRow, reT, reC, St.take, St.root, St.fresh, St.kill, St.setRoot, TS.kill, TV.kill, C.kill, Rt.kill, hitR, hitP, shapeOf, List.isPrefixOf, List.getElem?_set_self', List.set_set, hg]; rfl) ?_
        refine TU.opM (by decide) rfl (yes_none rfl) fun K hK => ?_
        refine OpM.of (build_value rfl) (fun w0 g0 => ⟨_, OpT.build0 (sz := 2) rfl rfl rfl rfl rfl⟩) ?_
        refine OpT.build0 (sz := 2) rfl rfl rfl rfl ?_
        simp only [nrm, Nat.reduceBEq, Nat.reduceBNe, reduceIte]
        refine hK _ ?_
        clear hK K
        refine TU.opM (by decide) rfl (yes_none rfl) fun K hK => ?_
        refine OpM.build1 rfl ⟨_, rfl, by decide⟩ (z := 0) rfl rfl rfl rfl rfl (by decide) (by decide) ?_
        refine OpT.build1 rfl rfl (z := 0) rfl rfl rfl rfl rfl (by decide) (by decide) (by simp [St.adopt, cellsV, elD, cellD, St.renew, St.store1, St.storeAll, St.cellAt, St.isMem, St.root, St.wrote, St.kill, St.setRoot, TS.kill, TV.kill, C.kill, Rt.kill, hitR, hitP, shapeOf, setRow, setAt, rowAt, D.row, D.reRow, List.isPrefixOf]; rfl) ?_
        simp only [nrm, Nat.reduceBEq, Nat.reduceBNe, reduceIte]
        refine hK _ ?_
        clear hK K
        refine TU.opB [3000, 72] (by decide) rfl (yes_none rfl) rfl (.cons rfl (by simp [St.cellAt, St.root, rowAt, setRow, setAt, D.row, D.reRow, listOf, List.getElem?_set_self', List.set_set, hg]; first | rfl | exact ⟨rfl, rfl⟩) rfl rfl .nil) (fun w0 g0 => ⟨_, OpT.appendOE rfl rfl rfl rfl rfl rfl (by decide) (by simp [D.row]) rfl rfl rfl rfl rfl rfl rfl (by simp; omega) rfl⟩) fun K hK => ?_
        refine OpT.appendOE rfl rfl rfl rfl rfl rfl (by decide) (by simp [D.row]) rfl rfl rfl rfl rfl rfl rfl (by simp; omega) ?_
        simp only [nrm, Nat.reduceBEq, Nat.reduceBNe, reduceIte]
        refine hK _ ?_
        clear hK K
        refine TU.valE (by decide) rfl (yes_none rfl) (by exact Val.index rfl rfl rfl rfl rfl (by simp [St.cellAt, St.root, rowAt, setRow, setAt, D.row, D.reRow, listOf, List.getElem?_set_self', List.set_set, hg]; first | rfl | exact ⟨rfl, rfl⟩) (by omega) (by simp; omega)) (by simp only [nput]; rfl) ?_
        refine TU.opK (by decide) rfl (yes_none rfl) fun K hK => ?_
        refine OpT.store (z := 1) rfl rfl rfl rfl (by simp [St.cellAt, St.root, rowAt, setRow, setAt, D.row, D.reRow, listOf, List.getElem?_set_self', List.set_set, hg]; first | rfl | exact ⟨rfl, rfl⟩) rfl (by simp [St.store1, St.storeAll, St.cellAt, St.isMem, St.root, St.wrote, St.kill, St.setRoot, TS.kill, TV.kill, C.kill, Rt.kill, hitR, hitP, shapeOf, setRow, setAt, rowAt, D.row, D.reRow, List.isPrefixOf, List.getElem?_set_self', List.set_set, hg]; rfl) ?_
        simp only [nrm, Nat.reduceBEq, Nat.reduceBNe, reduceIte]
        refine hK _ ?_
        clear hK K
        refine TU.nil ?_
        show TC _ _ _ _ _ _
        refine TC.seq ?_
        refine TC.region ?_
        refine TL.vE (Val.move 1 rfl rfl) ?_
        refine TL.vE (Val.addO rfl rfl rfl) ?_
        refine TL.vE (Val.lss rfl rfl rfl) ?_
        refine TL.vE (Val.assign 1 rfl rfl) ?_
        refine TL.nil ?_
        show TC _ _ _ _ _ _
        refine TC.ret ?_
        exact ⟨.inr rfl, [_], [_], _, [.sl 1 ((s.All.map dInsSS).set m (.sl 1 (g.map dInsS ++ [.sl 2 []]))), .sl 6 (s.Acts.map dAct)], rfl, by decide, rfl, by simp [refV, refC, valC, C.kill, hitR], rfl, rfl, by simp, rfl, ⟨(by rw [begins_gst hw hm hg hv] <;> first | rfl | (simp; done) | (simp only [rScript, dInsSS, dInsS, List.map_set, List.map_append, List.map_cons, List.map_nil]; done) | (simp only [rScript, dInsSS, dInsS, List.map_set, List.map_append, List.map_cons, List.map_nil]; rfl)), resV (by rw [begins_gst hw hm hg hv] <;> first | rfl | (simp; done) | (simp; omega))⟩⟩
      have hk58 := hb
      refine TC.skip ?_
      show TC _ _ _ _ _ _
      refine TC.seq ?_
      have hv : ws ≠ [wGst] := by intro e; first | (rw [e] at hg3; simp at hg3; done) | (have h1 := hx0 (by rw [e]; rfl); rw [e] at h1; rw [ba_beq] at hb; simp only [List.cons.injEq, and_true] at h1; rw [← h1] at hb; simp at hb)
      refine TC.region ?_
      refine TL.vE (Val.move 1 rfl rfl) ?_
      refine TL.opK rfl fun K hK => ?_
      refine OpT.callG rfl rfl rfl rfl rfl rfl ((spec_ReadIns_q hqi).k) (by repeat first | exact .nil | refine Snaps.cons (.ro _) ?_ | refine Snaps.cons (.aggRo rfl) ?_ | refine Snaps.cons (.cptr _) ?_ | refine Snaps.cons (.fn _) ?_ | refine Snaps.cons (.ownRef rfl (by first | assumption | exact whole_map _ _ (fun w c hc => by simp only [D.row, List.mem_cons, List.not_mem_nil, or_false] at hc; subst hc; exact .v _))) ?_ | refine Snaps.cons (.aggR (by repeat first | exact .nil | refine SnapCs.cons (.ro _) ?_ | refine SnapCs.cons (.ref rfl (by first | assumption | exact whole_map _ _ (fun w c hc => by simp only [D.row, List.mem_cons, List.not_mem_nil, or_false] at hc; subst hc; exact .v _))) ?_)) ?_) rfl ?_
      simp only [nrm, Nat.reduceBEq, Nat.reduceBNe, reduceIte]
      refine hK _ ?_
      clear hK K
      refine TL.vE (Val.move 1 rfl rfl) ?_
      refine TL.vE (Val.extract rfl rfl rfl) ?_
      refine TL.vE (Val.extract rfl rfl rfl) ?_
      refine TL.opK rfl fun K hK => ?_
      refine OpT.alloc rfl rfl rfl rfl rfl rfl ?_
      simp only [nrm, Nat.reduceBEq, Nat.reduceBNe, reduceIte]
      refine hK _ ?_
      clear hK K
      refine TL.opK rfl fun K hK => ?_
      refine OpT.storeAgg rfl rfl rfl rfl rfl rfl (by simp [St.store1, St.storeAll, St.cellAt, St.isMem, St.root, St.wrote, St.kill, St.setRoot, TS.kill, TV.kill, C.kill, Rt.kill, hitR, hitP, shapeOf, setRow, setAt, rowAt, D.row, D.reRow, List.isPrefixOf]; rfl) ?_ -- None
      simp only [nrm, Nat.reduceBEq, Nat.reduceBNe, reduceIte]
      refine hK _ ?_
      clear hK K
      refine TL.vE (Val.assign 1 rfl rfl) ?_
      refine TL.nil ?_
      show TC _ _ _ _ _ _
      refine TC.seq ?_
      refine TC.seq ?_
      refine TC.region ?_
      refine TL.vE (Val.move 1 rfl rfl) ?_
      refine TL.vE (Val.not rfl rfl) ?_
      refine TL.vE (Val.move 1 rfl rfl) ?_
      refine TL.splitG 2 rfl (fun hg2 => ?_) (fun hg2 => ?_)
      · iterate 2 (refine TL.skip (nope_b rfl rfl hg2) (by simp only [nput]; rfl) ?_)
        refine TL.vE (Val.pickT rfl rfl hg2 rfl) ?_
        refine TL.vE (Val.move 1 rfl rfl) ?_
        iterate 12 (refine TL.skip (nope_b rfl rfl rfl) (by simp only [nput]; rfl) ?_)
        refine TL.vE (Val.pickT rfl rfl rfl rfl) ?_
        refine TL.nil ?_
        show TC _ _ _ _ _ _
        refine TC.cond rfl (fun hb => ?_) (fun hb => absurd hb (by simp))
        refine TC.seq ?_
        have hacc : begins s line ws = (s, false) := by rcases hqe : qi with _ | i9; exact begins_bad hw hm hg hv (.inl (by rw [hqi, hqe])); rcases hge : g with _ | ⟨x9, l9⟩; exact begins_bad hw hm hg hv (.inr hge); first | (exfalso; rw [hqe] at hg2; simp at hg2; done) | (exfalso; rw [hge] at hg6; simp at hg6; omega) | exact begins_full hw hm hg hv hjl hj (by simp at hb; omega)
        refine TC.region ?_
        refine TL.vE (Val.assign 1 rfl rfl) ?_
        refine TL.nil ?_
        show TC _ _ _ _ _ _
        refine TC.ret ?_
        exact ⟨.inr rfl, [_], [_], _, rScript s, rfl, by decide, rfl, by simp [refV, refC, valC, C.kill, hitR], rfl, rfl, by simp, rfl, ⟨(by rw [hacc] <;> first | rfl | (simp; done) | (simp only [rScript, dInsSS, dInsS, List.map_set, List.map_append, List.map_cons, List.map_nil]; done) | (simp only [rScript, dInsSS, dInsS, List.map_set, List.map_append, List.map_cons, List.map_nil]; rfl)), resV (by rw [hacc] <;> first | rfl | (simp; done) | (simp; omega))⟩⟩
      · refine TL.gE rfl hg2 (Val.move 1 rfl rfl) ?_
        refine TL.gE rfl hg2 (Val.lss rfl rfl rfl) ?_
        refine TL.vE (Val.pickF rfl rfl hg2 rfl) ?_
        refine TL.vE (Val.move 1 rfl rfl) ?_
        refine TL.splitG 6 rfl (fun hg6 => ?_) (fun hg6 => ?_)
        · iterate 12 (refine TL.skip (nope_b rfl rfl hg6) (by simp only [nput]; rfl) ?_)
          refine TL.vE (Val.pickT rfl rfl hg6 rfl) ?_
          refine TL.nil ?_
          show TC _ _ _ _ _ _
          refine TC.cond rfl (fun hb => ?_) (fun hb => absurd hb (by simp))
          refine TC.seq ?_
          have hacc : begins s line ws = (s, false) := by rcases hqe : qi with _ | i9; exact begins_bad hw hm hg hv (.inl (by rw [hqi, hqe])); rcases hge : g with _ | ⟨x9, l9⟩; exact begins_bad hw hm hg hv (.inr hge); first | (exfalso; rw [hqe] at hg2; simp at hg2; done) | (exfalso; rw [hge] at hg6; simp at hg6; omega) | exact begins_full hw hm hg hv hjl hj (by simp at hb; omega)
          refine TC.region ?_
          refine TL.vE (Val.assign 1 rfl rfl) ?_
          refine TL.nil ?_
          show TC _ _ _ _ _ _
          refine TC.ret ?_
          exact ⟨.inr rfl, [_], [_], _, rScript s, rfl, by decide, rfl, by simp [refV, refC, valC, C.kill, hitR], rfl, rfl, by simp, rfl, ⟨(by rw [hacc] <;> first | rfl | (simp; done) | (simp only [rScript, dInsSS, dInsS, List.map_set, List.map_append, List.map_cons, List.map_nil]; done) | (simp only [rScript, dInsSS, dInsS, List.map_set, List.map_append, List.map_cons, List.map_nil]; rfl)), resV (by rw [hacc] <;> first | rfl | (simp; done) | (simp; omega))⟩⟩
        · obtain ⟨j, hjl⟩ : ∃ j, g.length = j + 1 := by cases h : g with | nil => (exfalso; rw [h] at hg6; simp at hg6) | cons x l => exact ⟨l.length, rfl⟩
          obtain ⟨p, hj⟩ := at_of (xs := g) (k := j) (by omega)
          have hj1 : (((g.map dInsS).length : Nat) : Int) - 1 = (j : Int) := by simp; omega
          have hj2 : ((g.length : Nat) : Int) - 1 = (j : Int) := by omega
          have hpl := hgl.2 p (List.mem_of_getElem? hj)
          first | rw [hj1] at hg6 ⊢ | rw [hj2] at hg6 ⊢
          refine TL.gE rfl hg6 (Val.move 1 rfl rfl) ?_
          refine TL.gE rfl hg6 (Val.nilPtr rfl rfl) ?_
          refine TL.guardE rfl rfl hg6 (by first | exact Val.field rfl rfl rfl | exact Val.fieldC rfl rfl rfl) (by simp only [nput, npf, Nat.reduceAdd]; rfl) ?_
          refine TL.guardE rfl rfl hg6 (by first | exact Val.load rfl rfl rfl rfl rfl | exact Val.loadC rfl rfl rfl) (by simp only [nput, valC]; rfl) ?_
          refine TL.gE rfl hg6 (Val.move 1 rfl rfl) ?_
          refine TL.gE rfl hg6 (by exact Val.index rfl rfl rfl rfl rfl rfl (by omega) (by simp; omega)) ?_
          refine TL.guardE rfl rfl hg6 (by exact Val.load rfl rfl rfl (by simp [St.cellAt, St.root, rowAt, setRow, setAt, D.row, D.reRow, listOf, List.getElem?_set_self', List.set_set, hg]; first | rfl | exact ⟨rfl, rfl⟩) rfl) (by simp only [nput, valC]; rfl) ?_
          refine TL.gE rfl hg6 (Val.move 1 rfl rfl) ?_
          refine TL.gE rfl hg6 (by exact Val.index rfl rfl rfl rfl rfl (by simp [St.cellAt, St.root, rowAt, setRow, setAt, D.row, D.reRow, listOf, List.getElem?_set_self', List.set_set, hg]; first | rfl | exact ⟨rfl, rfl⟩) (by omega) (by simp; omega)) ?_
          refine TL.guardE rfl rfl hg6 (by exact Val.load rfl rfl rfl (by simp [St.cellAt, St.root, rowAt, setRow, setAt, D.row, D.reRow, listOf, List.getElem?_set_self', List.set_set, hg, hj]; first | rfl | exact ⟨rfl, rfl⟩) rfl) (by simp only [nput, valC]; rfl) ?_
          refine TL.gE rfl hg6 (by exact Val.len rfl rfl (by simp [St.cellAt, St.root, rowAt, setRow, setAt, D.row, D.reRow, listOf, List.getElem?_set_self', List.set_set, hg, hj]; first | rfl | exact ⟨rfl, rfl⟩) rfl) ?_
          refine TL.gE rfl hg6 (Val.geq rfl rfl rfl) ?_
          refine TL.vE (Val.pickF rfl rfl hg6 rfl) ?_
          refine TL.nil ?_
          show TC _ _ _ _ _ _
          refine TC.cond rfl (fun hb => ?_) (fun hb => ?_)
          · have hk102 := hb
            refine TC.seq ?_
            have hacc : begins s line ws = (s, false) := by rcases hqe : qi with _ | i9; exact begins_bad hw hm hg hv (.inl (by rw [hqi, hqe])); rcases hge : g with _ | ⟨x9, l9⟩; exact begins_bad hw hm hg hv (.inr hge); first | (exfalso; rw [hqe] at hg2; simp at hg2; done) | (exfalso; rw [hge] at hg6; simp at hg6; omega) | exact begins_full hw hm hg hv hjl hj (by simp at hb; omega)
            refine TC.region ?_
            refine TL.vE (Val.assign 1 rfl rfl) ?_
            refine TL.nil ?_
            show TC _ _ _ _ _ _
            refine TC.ret ?_
            exact ⟨.inr rfl, [_], [_], _, rScript s, rfl, by decide, rfl, by simp [refV, refC, valC, C.kill, hitR], rfl, rfl, by simp, rfl, ⟨(by rw [hacc] <;> first | rfl | (simp; done) | (simp only [rScript, dInsSS, dInsS, List.map_set, List.map_append, List.map_cons, List.map_nil]; done) | (simp only [rScript, dInsSS, dInsS, List.map_set, List.map_append, List.map_cons, List.map_nil]; rfl)), resV (by rw [hacc] <;> first | rfl | (simp; done) | (simp; omega))⟩⟩
          have hk102 := hb
          refine TC.skip ?_
          show TC _ _ _ _ _ _
          refine TC.seq ?_
          obtain ⟨i, rfl⟩ : ∃ i, qi = some i := by cases qi <;> simp at hg2 <;> exact ⟨_, rfl⟩
          have hpl12 : p.length < 12 := by simp at hb; omega
          refine TC.regionV [20, 22] [20] [0, 46] [(0, 2), (1, 2), (2, 2), (3, 2), (4, 2), (5, 2), (6, 2), (7, 2), (8, 0), (9, 0), (10, 0), (11, 0), (12, 0), (13, 0), (14, 0), (15, 0), (16, 0), (17, 0), (18, 0), (19, 1), (20, 1), (21, 0), (22, 1)] rfl (by decide +kernel) ?_
          refine TU.valS (by decide) rfl (yes_none rfl) (ValS.pure (Val.move 1 rfl rfl) rfl) (by simp only [nput]; rfl) ?_
          refine TU.valS (by decide) rfl (yes_none rfl) (ValS.nilPtr rfl rfl) (by simp only [nput]; rfl) ?_
          refine TU.valS (by decide) rfl (yes_none rfl) (by first | exact ValS.field rfl rfl rfl | exact ValS.fieldC rfl rfl rfl) (by simp only [nput, npf, Nat.reduceAdd]; rfl) ?_
          refine TU.valS (by decide) rfl (yes_none rfl) (by exact ValS.load rfl rfl 0 (by decide) rfl rfl (by simp [St.cellAt, St.root, rowAt, setRow, setAt, D.row, D.reRow, listOf, List.getElem?_set_self', List.set_set, hg]; first | rfl | exact ⟨rfl, rfl⟩) rfl) (by simp only [nput, valC]; rfl) ?_
          refine TU.valS (by decide) rfl (yes_none rfl) (ValS.pure (Val.move 1 rfl rfl) rfl) (by simp only [nput]; rfl) ?_
          refine TU.valS (by decide) rfl (yes_none rfl) (by exact ValS.index rfl rfl rfl rfl rfl (by simp [St.cellAt, St.root, rowAt, setRow, setAt, D.row, D.reRow, listOf, List.getElem?_set_self', List.set_set, hg]; first | rfl | exact ⟨rfl, rfl⟩) (by omega) (by simp; omega)) (by simp only [nput]; rfl) ?_
          refine TU.valS (by decide) rfl (yes_none rfl) (by exact ValS.load rfl rfl 46 (by decide) rfl rfl (by simp [St.cellAt, St.root, rowAt, setRow, setAt, D.row, D.reRow, listOf, List.getElem?_set_self', List.set_set, hg]; first | rfl | exact ⟨rfl, rfl⟩) rfl) (by simp only [nput, valC]; rfl) ?_
          refine TU.valS (by decide) rfl (yes_none rfl) (ValS.pure (Val.move 1 rfl rfl) rfl) (by simp only [nput]; rfl) ?_
          refine TU.valE (by decide) rfl (yes_none rfl) (Val.move 1 rfl rfl) (by simp only [nput]; rfl) ?_
          refine TU.valE (by decide) rfl (yes_none rfl) (Val.nilPtr rfl rfl) (by simp only [nput]; rfl) ?_
          refine TU.valE (by decide) rfl (yes_none rfl) (by first | exact Val.field rfl rfl rfl | exact Val.fieldC rfl rfl rfl) (by simp only [nput, npf, Nat.reduceAdd]; rfl) ?_
          refine TU.valE (by decide) rfl (yes_none rfl) (by first | exact Val.load rfl rfl rfl rfl rfl | exact Val.loadC rfl rfl rfl) (by simp only [nput, valC]; rfl) ?_
          refine TU.valE (by decide) rfl (yes_none rfl) (Val.move 1 rfl rfl) (by simp only [nput]; rfl) ?_
          refine TU.valE (by decide) rfl (yes_none rfl) (by exact Val.index rfl rfl rfl rfl rfl (by simp [St.cellAt, St.root, rowAt, setRow, setAt, D.row, D.reRow, listOf, List.getElem?_set_self', List.set_set, hg]; first | rfl | exact ⟨rfl, rfl⟩) (by omega) (by simp; omega)) (by simp only [nput]; rfl) ?_
          refine TU.valE (by decide) rfl (yes_none rfl) (by exact Val.load rfl rfl rfl (by simp [St.cellAt, St.root, rowAt, setRow, setAt, D.row, D.reRow, listOf, List.getElem?_set_self', List.set_set, hg]; first | rfl | exact ⟨rfl, rfl⟩) rfl) (by simp only [nput, valC]; rfl) ?_
          refine TU.valE (by decide) rfl (yes_none rfl) (Val.move 1 rfl rfl) (by simp only [nput]; rfl) ?_
          refine TU.valE (by decide) rfl (yes_none rfl) (by exact Val.index rfl rfl rfl rfl rfl (by simp [St.cellAt, St.root, rowAt, setRow, setAt, D.row, D.reRow, listOf, List.getElem?_set_self', List.set_set, hg]; first | rfl | exact ⟨rfl, rfl⟩) (by omega) (by simp; omega)) (by simp only [nput]; rfl) ?_
          refine TU.valE (by decide) rfl (yes_none rfl) (by exact Val.load rfl rfl rfl (by simp [St.cellAt, St.root, rowAt, setRow, setAt, D.row, D.reRow, listOf, List.getElem?_set_self', List.set_set, hg, hj]; first | rfl | exact ⟨rfl, rfl⟩) rfl) (by simp only [nput, valC]; rfl) ?_
          refine TU.valE (by decide) rfl (yes_none rfl) (by first | exact Val.loadCAgg (n := 2) rfl rfl rfl rfl (Nat.le_of_ble_eq_true rfl) | exact Val.loadAgg (n := 2) rfl rfl rfl rfl (by simp [St.cellsAt, St.cellAt, St.root, valC]; rfl) rfl | exact Val.loadAgg (n := 2) rfl rfl rfl rfl rfl rfl) (by simp only [St.put, List.set_cons_succ, List.set_cons_zero, valC, dIns, rIns, D.row, List.take_succ_cons, List.take_zero, List.map_cons, List.map_nil]; rfl) ?_
          refine TU.takeN 1000001 [(0, m), (0, j)] 0 3000 (by simp [St.takeN, St.cellAt, rowAt, setRow, setAt, D.row, D.reRow, reT, reC, St.take, St.root, St.fresh, St.kill, St.setRoot, TS.kill, TV.kill, C.kill, Rt.kill, hitR, hitP, shapeOf, List.isPrefixOf, List.getElem?_set_self', List.set_set, hg, hj]; rfl) ?_
          refine TU.opM (by decide) rfl (yes_none rfl) fun K hK => ?_
          refine OpM.of (build_value rfl) (fun w0 g0 => ⟨_, OpT.buildP rfl rfl (xs := [(Go.Operand.tmp 121)]) rfl rfl rfl rfl (sz := 2) rfl rfl rfl (by decide) (by decide) rfl⟩) ?_
          refine OpT.buildP rfl rfl (xs := [(Go.Operand.tmp 121)]) rfl rfl rfl rfl (sz := 2) rfl rfl rfl (by decide) (by decide) ?_
          simp only [nrm, Nat.reduceBEq, Nat.reduceBNe, reduceIte]
          refine hK _ ?_
          clear hK K
          refine TU.opB [3000, 122] (by decide) rfl (yes_none rfl) rfl (.cons rfl (by simp [St.cellAt, St.root, rowAt, setRow, setAt, D.row, D.reRow, listOf, List.getElem?_set_self', List.set_set, hg, hj]; first | rfl | exact ⟨rfl, rfl⟩) rfl rfl (.cons rfl (by simp [St.cellAt, St.root, rowAt, setRow, setAt, D.row, D.reRow, listOf, List.getElem?_set_self', List.set_set, hg, hj]; first | rfl | exact ⟨rfl, rfl⟩) rfl rfl .nil)) (fun w0 g0 => ⟨_, OpT.appendE rfl rfl rfl (sz := 2) rfl rfl rfl (by simp [isPlain, D.row, elD, cellD]) rfl rfl rfl rfl rfl rfl rfl (by simp; omega) rfl⟩) fun K hK => ?_
          refine OpT.appendE rfl rfl rfl (sz := 2) rfl rfl rfl (by simp [isPlain, D.row, elD, cellD]) rfl rfl rfl rfl rfl rfl rfl (by simp; omega) ?_
          simp only [nrm, Nat.reduceBEq, Nat.reduceBNe, reduceIte]
          refine hK _ ?_
          clear hK K
          refine TU.valE (by decide) rfl (yes_none rfl) (by exact Val.index rfl rfl rfl rfl rfl (by simp [St.cellAt, St.root, rowAt, setRow, setAt, D.row, D.reRow, listOf, List.getElem?_set_self', List.set_set, hg, hj]; first | rfl | exact ⟨rfl, rfl⟩) (by omega) (by simp; omega)) (by simp only [nput]; rfl) ?_
          refine TU.opK (by decide) rfl (yes_none rfl) fun K hK => ?_
          refine OpT.store (z := 1) rfl rfl rfl rfl (by simp [St.cellAt, St.root, rowAt, setRow, setAt, D.row, D.reRow, listOf, List.getElem?_set_self', List.set_set, hg, hj]; first | rfl | exact ⟨rfl, rfl⟩) rfl (by simp [St.store1, St.storeAll, St.cellAt, St.isMem, St.root, St.wrote, St.kill, St.setRoot, TS.kill, TV.kill, C.kill, Rt.kill, hitR, hitP, shapeOf, setRow, setAt, rowAt, D.row, D.reRow, List.isPrefixOf, List.getElem?_set_self', List.set_set, hg, hj]; rfl) ?_
          simp only [nrm, Nat.reduceBEq, Nat.reduceBNe, reduceIte]
          refine hK _ ?_
          clear hK K
          refine TU.nil ?_
          show TC _ _ _ _ _ _
          refine TC.seq ?_
          refine TC.region ?_
          refine TL.vE (Val.assign 1 rfl rfl) ?_
          refine TL.nil ?_
          show TC _ _ _ _ _ _
          refine TC.ret ?_
          exact ⟨.inr rfl, [_], [_], _, [.sl 1 ((s.All.map dInsSS).set m (.sl 1 ((g.map dInsS).set j (.sl 2 (p.map dIns ++ [dIns i]))))), .sl 6 (s.Acts.map dAct)], rfl, by decide, rfl, by simp [refV, refC, valC, C.kill, hitR], rfl, rfl, by simp, rfl, ⟨(by rw [begins_ins hw hm hg hv hqi hjl hj hpl12] <;> first | rfl | (simp; done) | (simp only [rScript, dInsSS, dInsS, List.map_set, List.map_append, List.map_cons, List.map_nil]; done) | (simp only [rScript, dInsSS, dInsS, List.map_set, List.map_append, List.map_cons, List.map_nil]; rfl)), resV (by rw [begins_ins hw hm hg hv hqi hjl hj hpl12] <;> first | rfl | (simp; done) | (simp; omega))⟩⟩
    · iterate 4 (refine TL.skip (nope_b rfl rfl hg3) (by simp only [nput]; rfl) ?_)
      refine TL.vE (Val.pickF rfl rfl hg3 rfl) ?_
      refine TL.nil ?_
      show TC _ _ _ _ _ _
      refine TC.cond rfl (fun hb => absurd hb (by simp)) (fun hb => ?_)
      refine TC.skip ?_
      show TC _ _ _ _ _ _
      refine TC.seq ?_
      have hv : ws ≠ [wGst] := by intro e; first | (rw [e] at hg3; simp at hg3; done) | (have h1 := hx0 (by rw [e]; rfl); rw [e] at h1; rw [ba_beq] at hb; simp only [List.cons.injEq, and_true] at h1; rw [← h1] at hb; simp at hb)
      refine TC.region ?_
      refine TL.vE (Val.move 1 rfl rfl) ?_
      refine TL.opK rfl fun K hK => ?_
      refine OpT.callG rfl rfl rfl rfl rfl rfl ((spec_ReadIns_q hqi).k) (by repeat first | exact .nil | refine Snaps.cons (.ro _) ?_ | refine Snaps.cons (.aggRo rfl) ?_ | refine Snaps.cons (.cptr _) ?_ | refine Snaps.cons (.fn _) ?_ | refine Snaps.cons (.ownRef rfl (by first | assumption | exact whole_map _ _ (fun w c hc => by simp only [D.row, List.mem_cons, List.not_mem_nil, or_false] at hc; subst hc; exact .v _))) ?_ | refine Snaps.cons (.aggR (by repeat first | exact .nil | refine SnapCs.cons (.ro _) ?_ | refine SnapCs.cons (.ref rfl (by first | assumption | exact whole_map _ _ (fun w c hc => by simp only [D.row, List.mem_cons, List.not_mem_nil, or_false] at hc; subst hc; exact .v _))) ?_)) ?_) rfl ?_
      simp only [nrm, Nat.reduceBEq, Nat.reduceBNe, reduceIte]
      refine hK _ ?_
      clear hK K
      refine TL.vE (Val.move 1 rfl rfl) ?_
      refine TL.vE (Val.extract rfl rfl rfl) ?_
      refine TL.vE (Val.extract rfl rfl rfl) ?_
      refine TL.opK rfl fun K hK => ?_
      refine OpT.alloc rfl rfl rfl rfl rfl rfl ?_
      simp only [nrm, Nat.reduceBEq, Nat.reduceBNe, reduceIte]
      refine hK _ ?_
      clear hK K
      refine TL.opK rfl fun K hK => ?_
      refine OpT.storeAgg rfl rfl rfl rfl rfl rfl (by simp [St.store1, St.storeAll, St.cellAt, St.isMem, St.root, St.wrote, St.kill, St.setRoot, TS.kill, TV.kill, C.kill, Rt.kill, hitR, hitP, shapeOf, setRow, setAt, rowAt, D.row, D.reRow, List.isPrefixOf]; rfl) ?_ -- None
      simp only [nrm, Nat.reduceBEq, Nat.reduceBNe, reduceIte]
      refine hK _ ?_
      clear hK K
      refine TL.vE (Val.assign 1 rfl rfl) ?_
      refine TL.nil ?_
      show TC _ _ _ _ _ _
      refine TC.seq ?_
      refine TC.seq ?_
      refine TC.region ?_
      refine TL.vE (Val.move 1 rfl rfl) ?_
      refine TL.vE (Val.not rfl rfl) ?_
      refine TL.vE (Val.move 1 rfl rfl) ?_
      refine TL.splitG 2 rfl (fun hg2 => ?_) (fun hg2 => ?_)
      · iterate 2 (refine TL.skip (nope_b rfl rfl hg2) (by simp only [nput]; rfl) ?_)
        refine TL.vE (Val.pickT rfl rfl hg2 rfl) ?_
        refine TL.vE (Val.move 1 rfl rfl) ?_
        iterate 12 (refine TL.skip (nope_b rfl rfl rfl) (by simp only [nput]; rfl) ?_)
        refine TL.vE (Val.pickT rfl rfl rfl rfl) ?_
        refine TL.nil ?_
        show TC _ _ _ _ _ _
        refine TC.cond rfl (fun hb => ?_) (fun hb => absurd hb (by simp))
        refine TC.seq ?_
        have hacc : begins s line ws = (s, false) := by rcases hqe : qi with _ | i9; exact begins_bad hw hm hg hv (.inl (by rw [hqi, hqe])); rcases hge : g with _ | ⟨x9, l9⟩; exact begins_bad hw hm hg hv (.inr hge); first | (exfalso; rw [hqe] at hg2; simp at hg2; done) | (exfalso; rw [hge] at hg6; simp at hg6; omega) | exact begins_full hw hm hg hv hjl hj (by simp at hb; omega)
        refine TC.region ?_
        refine TL.vE (Val.assign 1 rfl rfl) ?_
        refine TL.nil ?_
        show TC _ _ _ _ _ _
        refine TC.ret ?_
        exact ⟨.inr rfl, [_], [_], _, rScript s, rfl, by decide, rfl, by simp [refV, refC, valC, C.kill, hitR], rfl, rfl, by simp, rfl, ⟨(by rw [hacc] <;> first | rfl | (simp; done) | (simp only [rScript, dInsSS, dInsS, List.map_set, List.map_append, List.map_cons, List.map_nil]; done) | (simp only [rScript, dInsSS, dInsS, List.map_set, List.map_append, List.map_cons, List.map_nil]; rfl)), resV (by rw [hacc] <;> first | rfl | (simp; done) | (simp; omega))⟩⟩
      · refine TL.gE rfl hg2 (Val.move 1 rfl rfl) ?_
        refine TL.gE rfl hg2 (Val.lss rfl rfl rfl) ?_
        refine TL.vE (Val.pickF rfl rfl hg2 rfl) ?_
        refine TL.vE (Val.move 1 rfl rfl) ?_
        refine TL.splitG 6 rfl (fun hg6 => ?_) (fun hg6 => ?_)
        · iterate 12 (refine TL.skip (nope_b rfl rfl hg6) (by simp only [nput]; rfl) ?_)
          refine TL.vE (Val.pickT rfl rfl hg6 rfl) ?_
          refine TL.nil ?_
          show TC _ _ _ _ _ _
          refine TC.cond rfl (fun hb => ?_) (fun hb => absurd hb (by simp))
          refine TC.seq ?_
          have hacc : begins s line ws = (s, false) := by rcases hqe : qi with _ | i9; exact begins_bad hw hm hg hv (.inl (by rw [hqi, hqe])); rcases hge : g with _ | ⟨x9, l9⟩; exact begins_bad hw hm hg hv (.inr hge); first | (exfalso; rw [hqe] at hg2; simp at hg2; done) | (exfalso; rw [hge] at hg6; simp at hg6; omega) | exact begins_full hw hm hg hv hjl hj (by simp at hb; omega)
          refine TC.region ?_
          refine TL.vE (Val.assign 1 rfl rfl) ?_
          refine TL.nil ?_
          show TC _ _ _ _ _ _
          refine TC.ret ?_
          exact ⟨.inr rfl, [_], [_], _, rScript s, rfl, by decide, rfl, by simp [refV, refC, valC, C.kill, hitR], rfl, rfl, by simp, rfl, ⟨(by rw [hacc] <;> first | rfl | (simp; done) | (simp only [rScript, dInsSS, dInsS, List.map_set, List.map_append, List.map_cons, List.map_nil]; done) | (simp only [rScript, dInsSS, dInsS, List.map_set, List.map_append, List.map_cons, List.map_nil]; rfl)), resV (by rw [hacc] <;> first | rfl | (simp; done) | (simp; omega))⟩⟩
        · obtain ⟨j, hjl⟩ : ∃ j, g.length = j + 1 := by cases h : g with | nil => (exfalso; rw [h] at hg6; simp at hg6) | cons x l => exact ⟨l.length, rfl⟩
          obtain ⟨p, hj⟩ := at_of (xs := g) (k := j) (by omega)
          have hj1 : (((g.map dInsS).length : Nat) : Int) - 1 = (j : Int) := by simp; omega
          have hj2 : ((g.length : Nat) : Int) - 1 = (j : Int) := by omega
          have hpl := hgl.2 p (List.mem_of_getElem? hj)
          first | rw [hj1] at hg6 ⊢ | rw [hj2] at hg6 ⊢
          refine TL.gE rfl hg6 (Val.move 1 rfl rfl) ?_
          refine TL.gE rfl hg6 (Val.nilPtr rfl rfl) ?_
          refine TL.guardE rfl rfl hg6 (by first | exact Val.field rfl rfl rfl | exact Val.fieldC rfl rfl rfl) (by simp only [nput, npf, Nat.reduceAdd]; rfl) ?_
          refine TL.guardE rfl rfl hg6 (by first | exact Val.load rfl rfl rfl rfl rfl | exact Val.loadC rfl rfl rfl) (by simp only [nput, valC]; rfl) ?_
          refine TL.gE rfl hg6 (Val.move 1 rfl rfl) ?_
          refine TL.gE rfl hg6 (by exact Val.index rfl rfl rfl rfl rfl rfl (by omega) (by simp; omega)) ?_
          refine TL.guardE rfl rfl hg6 (by exact Val.load rfl rfl rfl (by simp [St.cellAt, St.root, rowAt, setRow, setAt, D.row, D.reRow, listOf, List.getElem?_set_self', List.set_set, hg]; first | rfl | exact ⟨rfl, rfl⟩) rfl) (by simp only [nput, valC]; rfl) ?_
          refine TL.gE rfl hg6 (Val.move 1 rfl rfl) ?_
          refine TL.gE rfl hg6 (by exact Val.index rfl rfl rfl rfl rfl (by simp [St.cellAt, St.root, rowAt, setRow, setAt, D.row, D.reRow, listOf, List.getElem?_set_self', List.set_set, hg]; first | rfl | exact ⟨rfl, rfl⟩) (by omega) (by simp; omega)) ?_
          refine TL.guardE rfl rfl hg6 (by exact Val.load rfl rfl rfl (by simp [St.cellAt, St.root, rowAt, setRow, setAt, D.row, D.reRow, listOf, List.getElem?_set_self', List.set_set, hg, hj]; first | rfl | exact ⟨rfl, rfl⟩) rfl) (by simp only [nput, valC]; rfl) ?_
          refine TL.gE rfl hg6 (by exact Val.len rfl rfl (by simp [St.cellAt, St.root, rowAt, setRow, setAt, D.row, D.reRow, listOf, List.getElem?_set_self', List.set_set, hg, hj]; first | rfl | exact ⟨rfl, rfl⟩) rfl) ?_
          refine TL.gE rfl hg6 (Val.geq rfl rfl rfl) ?_
          refine TL.vE (Val.pickF rfl rfl hg6 rfl) ?_
          refine TL.nil ?_
          show TC _ _ _ _ _ _
          refine TC.cond rfl (fun hb => ?_) (fun hb => ?_)
          · have hk102 := hb
            refine TC.seq ?_
            have hacc : begins s line ws = (s, false) := by rcases hqe : qi with _ | i9; exact begins_bad hw hm hg hv (.inl (by rw [hqi, hqe])); rcases hge : g with _ | ⟨x9, l9⟩; exact begins_bad hw hm hg hv (.inr hge); first | (exfalso; rw [hqe] at hg2; simp at hg2; done) | (exfalso; rw [hge] at hg6; simp at hg6; omega) | exact begins_full hw hm hg hv hjl hj (by simp at hb; omega)
            refine TC.region ?_
            refine TL.vE (Val.assign 1 rfl rfl) ?_
            refine TL.nil ?_
            show TC _ _ _ _ _ _
            refine TC.ret ?_
            exact ⟨.inr rfl, [_], [_], _, rScript s, rfl, by decide, rfl, by simp [refV, refC, valC, C.kill, hitR], rfl, rfl, by simp, rfl, ⟨(by rw [hacc] <;> first | rfl | (simp; done) | (simp only [rScript, dInsSS, dInsS, List.map_set, List.map_append, List.map_cons, List.map_nil]; done) | (simp only [rScript, dInsSS, dInsS, List.map_set, List.map_append, List.map_cons, List.map_nil]; rfl)), resV (by rw [hacc] <;> first | rfl | (simp; done) | (simp; omega))⟩⟩
          have hk102 := hb
          refine TC.skip ?_
          show TC _ _ _ _ _ _
          refine TC.seq ?_
          obtain ⟨i, rfl⟩ : ∃ i, qi = some i := by cases qi <;> simp at hg2 <;> exact ⟨_, rfl⟩
          have hpl12 : p.length < 12 := by simp at hb; omega
          refine TC.regionV [20, 22] [20] [0, 46] [(0, 2), (1, 2), (2, 2), (3, 2), (4, 2), (5, 2), (6, 2), (7, 2), (8, 0), (9, 0), (10, 0), (11, 0), (12, 0), (13, 0), (14, 0), (15, 0), (16, 0), (17, 0), (18, 0), (19, 1), (20, 1), (21, 0), (22, 1)] rfl (by decide +kernel) ?_
          refine TU.valS (by decide) rfl (yes_none rfl) (ValS.pure (Val.move 1 rfl rfl) rfl) (by simp only [nput]; rfl) ?_
          refine TU.valS (by decide) rfl (yes_none rfl) (ValS.nilPtr rfl rfl) (by simp only [nput]; rfl) ?_
          refine TU.valS (by decide) rfl (yes_none rfl) (by first | exact ValS.field rfl rfl rfl | exact ValS.fieldC rfl rfl rfl) (by simp only [nput, npf, Nat.reduceAdd]; rfl) ?_
          refine TU.valS (by decide) rfl (yes_none rfl) (by exact ValS.load rfl rfl 0 (by decide) rfl rfl (by simp [St.cellAt, St.root, rowAt, setRow, setAt, D.row, D.reRow, listOf, List.getElem?_set_self', List.set_set, hg]; first | rfl | exact ⟨rfl, rfl⟩) rfl) (by simp only [nput, valC]; rfl) ?_
          refine TU.valS (by decide) rfl (yes_none rfl) (ValS.pure (Val.move 1 rfl rfl) rfl) (by simp only [nput]; rfl) ?_
          refine TU.valS (by decide) rfl (yes_none rfl) (by exact ValS.index rfl rfl rfl rfl rfl (by simp [St.cellAt, St.root, rowAt, setRow, setAt, D.row, D.reRow, listOf, List.getElem?_set_self', List.set_set, hg]; first | rfl | exact ⟨rfl, rfl⟩) (by omega) (by simp; omega)) (by simp only [nput]; rfl) ?_
          refine TU.valS (by decide) rfl (yes_none rfl) (by exact ValS.load rfl rfl 46 (by decide) rfl rfl (by simp [St.cellAt, St.root, rowAt, setRow, setAt, D.row, D.reRow, listOf, List.getElem?_set_self', List.set_set, hg]; first | rfl | exact ⟨rfl, rfl⟩) rfl) (by simp only [nput, valC]; rfl) ?_
          refine TU.valS (by decide) rfl (yes_none rfl) (ValS.pure (Val.move 1 rfl rfl) rfl) (by simp only [nput]; rfl) ?_
          refine TU.valE (by decide) rfl (yes_none rfl) (Val.move 1 rfl rfl) (by simp only [nput]; rfl) ?_
          refine TU.valE (by decide) rfl (yes_none rfl) (Val.nilPtr rfl rfl) (by simp only [nput]; rfl) ?_
          refine TU.valE (by decide) rfl (yes_none rfl) (by first | exact Val.field rfl rfl rfl | exact Val.fieldC rfl rfl rfl) (by simp only [nput, npf, Nat.reduceAdd]; rfl) ?_
          refine TU.valE (by decide) rfl (yes_none rfl) (by first | exact Val.load rfl rfl rfl rfl rfl | exact Val.loadC rfl rfl rfl) (by simp only [nput, valC]; rfl) ?_
          refine TU.valE (by decide) rfl (yes_none rfl) (Val.move 1 rfl rfl) (by simp only [nput]; rfl) ?_
          refine TU.valE (by decide) rfl (yes_none rfl) (by exact Val.index rfl rfl rfl rfl rfl (by simp [St.cellAt, St.root, rowAt, setRow, setAt, D.row, D.reRow, listOf, List.getElem?_set_self', List.set_set, hg]; first | rfl | exact ⟨rfl, rfl⟩) (by omega) (by simp; omega)) (by simp only [nput]; rfl) ?_
          refine TU.valE (by decide) rfl (yes_none rfl) (by exact Val.load rfl rfl rfl (by simp [St.cellAt, St.root, rowAt, setRow, setAt, D.row, D.reRow, listOf, List.getElem?_set_self', List.set_set, hg]; first | rfl | exact ⟨rfl, rfl⟩) rfl) (by simp only [nput, valC]; rfl) ?_
          refine TU.valE (by decide) rfl (yes_none rfl) (Val.move 1 rfl rfl) (by simp only [nput]; rfl) ?_
          refine TU.valE (by decide) rfl (yes_none rfl) (by exact Val.index rfl rfl rfl rfl rfl (by simp [St.cellAt, St.root, rowAt, setRow, setAt, D.row, D.reRow, listOf, List.getElem?_set_self', List.set_set, hg]; first | rfl | exact ⟨rfl, rfl⟩) (by omega) (by simp; omega)) (by simp only [nput]; rfl) ?_
          refine TU.valE (by decide) rfl (yes_none rfl) (by exact Val.load rfl rfl rfl (by simp [St.cellAt, St.root, rowAt, setRow, setAt, D.row, D.reRow, listOf, List.getElem?_set_self', List.set_set, hg, hj]; first | rfl | exact ⟨rfl, rfl⟩) rfl) (by simp only [nput, valC]; rfl) ?_
          refine TU.valE (by decide) rfl (yes_none rfl) (by first | exact Val.loadCAgg (n := 2) rfl rfl rfl rfl (Nat.le_of_ble_eq_true rfl) | exact Val.loadAgg (n := 2) rfl rfl rfl rfl (by simp [St.cellsAt, St.cellAt, St.root, valC]; rfl) rfl | exact Val.loadAgg (n := 2) rfl rfl rfl rfl rfl rfl) (by simp only [St.put, List.set_cons_succ, List.set_cons_zero, valC, dIns, rIns, D.row, List.take_succ_cons, List.take_zero, List.map_cons, List.map_nil]; rfl) ?_
          refine TU.takeN 1000001 [(0, m), (0, j)] 0 3000 (by simp [St.takeN, St.cellAt, rowAt, setRow, setAt, D.row, D.reRow, reT, reC, St.take, St.root, St.fresh, St.kill, St.setRoot, TS.kill, TV.kill, C.kill, Rt.kill, hitR, hitP, shapeOf, List.isPrefixOf, List.getElem?_set_self', List.set_set, hg, hj]; rfl) ?_
          refine TU.opM (by decide) rfl (yes_none rfl) fun K hK => ?_
          refine OpM.of (build_value rfl) (fun w0 g0 => ⟨_, OpT.buildP rfl rfl (xs := [(Go.Operand.tmp 121)]) rfl rfl rfl rfl (sz := 2) rfl rfl rfl (by decide) (by decide) rfl⟩) ?_
          refine OpT.buildP rfl rfl (xs := [(Go.Operand.tmp 121)]) rfl rfl rfl rfl (sz := 2) rfl rfl rfl (by decide) (by decide) ?_
          simp only [nrm, Nat.reduceBEq, Nat.reduceBNe, reduceIte]
          refine hK _ ?_
          clear hK K
          refine TU.opB [3000, 122] (by decide) rfl (yes_none rfl) rfl (.cons rfl (by simp [St.cellAt, St.root, rowAt, setRow, setAt, D.row, D.reRow, listOf, List.getElem?_set_self', List.set_set, hg, hj]; first | rfl | exact ⟨rfl, rfl⟩) rfl rfl (.cons rfl (by simp [St.cellAt, St.root, rowAt, setRow, setAt, D.row, D.reRow, listOf, List.getElem?_set_self', List.set_set, hg, hj]; first | rfl | exact ⟨rfl, rfl⟩) rfl rfl .nil)) (fun w0 g0 => ⟨_, OpT.appendE rfl rfl rfl (sz := 2) rfl rfl rfl (by simp [isPlain, D.row, elD, cellD]) rfl rfl rfl rfl rfl rfl rfl (by simp; omega) rfl⟩) fun K hK => ?_
          refine OpT.appendE rfl rfl rfl (sz := 2) rfl rfl rfl (by simp [isPlain, D.row, elD, cellD]) rfl rfl rfl rfl rfl rfl rfl (by simp; omega) ?_
          simp only [nrm, Nat.reduceBEq, Nat.reduceBNe, reduceIte]
          refine hK _ ?_
          clear hK K
          refine TU.valE (by decide) rfl (yes_none rfl) (by exact Val.index rfl rfl rfl rfl rfl (by simp [St.cellAt, St.root, rowAt, setRow, setAt, D.row, D.reRow, listOf, List.getElem?_set_self', List.set_set, hg, hj]; first | rfl | exact ⟨rfl, rfl⟩) (by omega) (by simp; omega)) (by simp only [nput]; rfl) ?_
          refine TU.opK (by decide) rfl (yes_none rfl) fun K hK => ?_
          refine OpT.store (z := 1) rfl rfl rfl rfl (by simp [St.cellAt, St.root, rowAt, setRow, setAt, D.row, D.reRow, listOf, List.getElem?_set_self', List.set_set, hg, hj]; first | rfl | exact ⟨rfl, rfl⟩) rfl (by simp [St.store1, St.storeAll, St.cellAt, St.isMem, St.root, St.wrote, St.kill, St.setRoot, TS.kill, TV.kill, C.kill, Rt.kill, hitR, hitP, shapeOf, setRow, setAt, rowAt, D.row, D.reRow, List.isPrefixOf, List.getElem?_set_self', List.set_set, hg, hj]; rfl) ?_
          simp only [nrm, Nat.reduceBEq, Nat.reduceBNe, reduceIte]
          refine hK _ ?_
          clear hK K
          refine TU.nil ?_
          show TC _ _ _ _ _ _
          refine TC.seq ?_
          refine TC.region ?_
          refine TL.vE (Val.assign 1 rfl rfl) ?_
          refine TL.nil ?_
          show TC _ _ _ _ _ _
          refine TC.ret ?_
          exact ⟨.inr rfl, [_], [_], _, [.sl 1 ((s.All.map dInsSS).set m (.sl 1 ((g.map dInsS).set j (.sl 2 (p.map dIns ++ [dIns i]))))), .sl 6 (s.Acts.map dAct)], rfl, by decide, rfl, by simp [refV, refC, valC, C.kill, hitR], rfl, rfl, by simp, rfl, ⟨(by rw [begins_ins hw hm hg hv hqi hjl hj hpl12] <;> first | rfl | (simp; done) | (simp only [rScript, dInsSS, dInsS, List.map_set, List.map_append, List.map_cons, List.map_nil]; done) | (simp only [rScript, dInsSS, dInsS, List.map_set, List.map_append, List.map_cons, List.map_nil]; rfl)), resV (by rw [begins_ins hw hm hg hv hqi hjl hj hpl12] <;> first | rfl | (simp; done) | (simp; omega))⟩⟩
  · iterate 4 (refine TL.skip (nope_b rfl rfl hg3) (by simp only [nput]; rfl) ?_)
    refine TL.vE (Val.pickF rfl rfl hg3 rfl) ?_
    refine TL.nil ?_
    show TC _ _ _ _ _ _
    refine TC.cond rfl (fun hb => absurd hb (by simp)) (fun hb => ?_)
    refine TC.skip ?_
    show TC _ _ _ _ _ _
    refine TC.seq ?_
    refine TC.seq ?_
    have hw : ws ≠ [wMon] := by intro e; first | (rw [e] at hg3; simp at hg3; done) | (have h1 := hx0 (by rw [e]; rfl); rw [e] at h1; rw [ba_beq] at hb; simp only [List.cons.injEq, and_true] at h1; rw [← h1] at hb; simp at hb)
    refine TC.region ?_
    refine TL.vE (Val.move 1 rfl rfl) ?_
    refine TL.vE (Val.lss rfl rfl rfl) ?_
    refine TL.nil ?_
    show TC _ _ _ _ _ _
    refine TC.cond rfl (fun hb => ?_) (fun hb => ?_)
    · have hk40 := hb
      refine TC.seq ?_
      have hA : s.All = [] := by cases h : s.All with | nil => rfl | cons x l => (exfalso; rw [h] at hb; simp at hb; omega)
      refine TC.region ?_
      refine TL.vE (Val.assign 1 rfl rfl) ?_
      refine TL.nil ?_
      show TC _ _ _ _ _ _
      refine TC.ret ?_
      exact ⟨.inr rfl, [_], [_], _, rScript s, rfl, by decide, rfl, by simp [refV, refC, valC, C.kill, hitR], rfl, rfl, by simp, rfl, ⟨(by rw [begins_none hw hA] <;> first | rfl | (simp; done) | (simp only [rScript, dInsSS, dInsS, List.map_set, List.map_append, List.map_cons, List.map_nil]; done) | (simp only [rScript, dInsSS, dInsS, List.map_set, List.map_append, List.map_cons, List.map_nil]; rfl)), resV (by rw [begins_none hw hA] <;> first | rfl | (simp; done) | (simp; omega))⟩⟩
    have hk40 := hb
    refine TC.skip ?_
    show TC _ _ _ _ _ _
    refine TC.seq ?_
    obtain ⟨m, hm⟩ : ∃ m, s.All.length = m + 1 := by cases h : s.All with | nil => (rw [h] at hb; simp at hb) | cons x l => exact ⟨l.length, rfl⟩
    obtain ⟨g, hg⟩ := at_of (xs := s.All) (k := m) (by omega)
    have hm1 : (((s.All.map dInsSS).length : Nat) : Int) - 1 = (m : Int) := by simp; omega
    have hgl := hs3 g (List.mem_of_getElem? hg)
    rw [hm1]
    refine TC.region ?_
    refine TL.vE (Val.move 1 rfl rfl) ?_
    refine TL.vE (Val.nilPtr rfl rfl) ?_
    refine TL.fld ?_
    refine TL.ld ?_
    refine TL.vE (Val.move 1 rfl rfl) ?_
    refine TL.vE (by exact Val.index rfl rfl rfl rfl rfl rfl (by omega) (by simp; omega)) ?_
    refine TL.valE rfl (by exact Val.load rfl rfl rfl (by simp [St.cellAt, St.root, rowAt, setRow, setAt, D.row, D.reRow, listOf, List.getElem?_set_self', List.set_set, hg]; first | rfl | exact ⟨rfl, rfl⟩) rfl) (by simp only [nput, valC]; rfl) ?_
    refine TL.vE (by exact Val.len rfl rfl (by simp [St.cellAt, St.root, rowAt, setRow, setAt, D.row, D.reRow, listOf, List.getElem?_set_self', List.set_set, hg]; first | rfl | exact ⟨rfl, rfl⟩) rfl) ?_
    refine TL.vE (Val.sub rfl rfl rfl (by first | omega | (simp only [List.length_map]; omega)) (by first | omega | (simp only [List.length_map]; omega))) ?_
    refine TL.vE (Val.assign 1 rfl rfl) ?_
    refine TL.nil ?_
    show TC _ _ _ _ _ _
    refine TC.seq ?_
    refine TC.seq ?_
    refine TC.region ?_
    refine TL.vE (Val.move 1 rfl rfl) ?_
    refine TL.vE (by first | exact Val.len rfl rfl rfl rfl | exact Val.lenS rfl rfl rfl) ?_
    refine TL.vE (Val.eql rfl rfl rfl) ?_
    refine TL.vE (Val.move 1 rfl rfl) ?_
    refine TL.splitG 3 rfl (fun hg3 => ?_) (fun hg3 => ?_)
    · refine TL.gE rfl hg3 (Val.move 1 rfl rfl) ?_
      refine TL.gE rfl hg3 (by exact Val.indexC (d := .v (.string x0)) rfl rfl rfl rfl rfl (by omega) (by simp [hx0 (by simp at hg3; omega)])) ?_
      refine TL.guardE rfl rfl hg3 (by first | exact Val.load rfl rfl rfl rfl rfl | exact Val.loadC rfl rfl rfl) (by simp only [nput, valC]; rfl) ?_
      refine TL.gE rfl hg3 (Val.eqlS rfl rfl rfl) ?_
      refine TL.vE (Val.pickT rfl rfl hg3 rfl) ?_
      refine TL.nil ?_
      show TC _ _ _ _ _ _
      refine TC.cond rfl (fun hb => ?_) (fun hb => ?_)
      · have hk58 := hb
        refine TC.seq ?_
        have hv : ws = [wGst] := by rw [hx0 (by simp at hg3; omega)]; rw [ba_beq] at hb; simpa using hb
        refine TC.regionV [14, 16] [14] [0] [(0, 2), (1, 2), (2, 2), (3, 2), (4, 2), (5, 0), (6, 0), (7, 0), (8, 0), (9, 0), (10, 0), (11, 0), (12, 1), (13, 1), (14, 1), (15, 0), (16, 1)] rfl (by decide +kernel) ?_
        refine TU.valS (by decide) rfl (yes_none rfl) (ValS.pure (Val.move 1 rfl rfl) rfl) (by simp only [nput]; rfl) ?_
        refine TU.valS (by decide) rfl (yes_none rfl) (ValS.nilPtr rfl rfl) (by simp only [nput]; rfl) ?_
        refine TU.valS (by decide) rfl (yes_none rfl) (by first | exact ValS.field rfl rfl rfl | exact ValS.fieldC rfl rfl rfl) (by simp only [nput, npf, Nat.reduceAdd]; rfl) ?_
        refine TU.valS (by decide) rfl (yes_none rfl) (by exact ValS.load rfl rfl 0 (by decide) rfl rfl (by simp [St.cellAt, St.root, rowAt, setRow, setAt, D.row, D.reRow, listOf, List.getElem?_set_self', List.set_set, hg]; first | rfl | exact ⟨rfl, rfl⟩) rfl) (by simp only [nput, valC]; rfl) ?_
        refine TU.valS (by decide) rfl (yes_none rfl) (ValS.pure (Val.move 1 rfl rfl) rfl) (by simp only [nput]; rfl) ?_
        refine TU.valE (by decide) rfl (yes_none rfl) (Val.move 1 rfl rfl) (by simp only [nput]; rfl) ?_
        refine TU.valE (by decide) rfl (yes_none rfl) (Val.nilPtr rfl rfl) (by simp only [nput]; rfl) ?_
        refine TU.valE (by decide) rfl (yes_none rfl) (by first | exact Val.field rfl rfl rfl | exact Val.fieldC rfl rfl rfl) (by simp only [nput, npf, Nat.reduceAdd]; rfl) ?_
        refine TU.valE (by decide) rfl (yes_none rfl) (by first | exact Val.load rfl rfl rfl rfl rfl | exact Val.loadC rfl rfl rfl) (by simp only [nput, valC]; rfl) ?_
        refine TU.valE (by decide) rfl (yes_none rfl) (Val.move 1 rfl rfl) (by simp only [nput]; rfl) ?_
        refine TU.valE (by decide) rfl (yes_none rfl) (by exact Val.index rfl rfl rfl rfl rfl (by simp [St.cellAt, St.root, rowAt, setRow, setAt, D.row, D.reRow, listOf, List.getElem?_set_self', List.set_set, hg]; first | rfl | exact ⟨rfl, rfl⟩) (by omega) (by simp; omega)) (by simp only [nput]; rfl) ?_
        refine TU.valE (by decide) rfl (yes_none rfl) (by exact Val.load rfl rfl rfl (by simp [St.cellAt, St.root, rowAt, setRow, setAt, D.row, D.reRow, listOf, List.getElem?_set_self', List.set_set, hg]; first | rfl | exact ⟨rfl, rfl⟩) rfl) (by simp only [nput, valC]; rfl) ?_
        refine TU.takeN 1000001 [(0, m)] 0 3000 (by simp [St.takeN, St.cellAt, rowAt, setRow, setAt, D.row, D.reRow, reT, reC, St.take, St.root, St.fresh, St.kill, St.setRoot, TS.kill, TV.kill, C.kill, Rt.kill, hitR, hitP, shapeOf, List.isPrefixOf, List.getElem?_set_self', List.set_set, hg]; rfl) ?_
        refine TU.opM (by decide) rfl (yes_none rfl) fun K hK => ?_
        refine OpM.of (build_value rfl) (fun w0 g0 => ⟨_, OpT.build0 (sz := 2) rfl rfl rfl rfl rfl⟩) ?_
        refine OpT.build0 (sz := 2) rfl rfl rfl rfl ?_
        simp only [nrm, Nat.reduceBEq, Nat.reduceBNe, reduceIte]
        refine hK _ ?_
        clear hK K
        refine TU.opM (by decide) rfl (yes_none rfl) fun K hK => ?_
        refine OpM.build1 rfl ⟨_, rfl, by decide⟩ (z := 0) rfl rfl rfl rfl rfl (by decide) (by decide) ?_
        refine OpT.build1 rfl rfl (z := 0) rfl rfl rfl rfl rfl (by decide) (by decide) (by simp [St.adopt, cellsV, elD, cellD, St.renew, St.store1, St.storeAll, St.cellAt, St.isMem, St.root, St.wrote, St.kill, St.setRoot, TS.kill, TV.kill, C.kill, Rt.kill, hitR, hitP, shapeOf, setRow, setAt, rowAt, D.row, D.reRow, List.isPrefixOf]; rfl) ?_
        simp only [nrm, Nat.reduceBEq, Nat.reduceBNe, reduceIte]
        refine hK _ ?_
        clear hK K
        refine TU.opB [3000, 72] (by decide) rfl (yes_none rfl) rfl (.cons rfl (by simp [St.cellAt, St.root, rowAt, setRow, setAt, D.row, D.reRow, listOf, List.getElem?_set_self', List.set_set, hg]; first | rfl | exact ⟨rfl, rfl⟩) rfl rfl .nil) (fun w0 g0 => ⟨_, OpT.appendOE rfl rfl rfl rfl rfl rfl (by decide) (by simp [D.row]) rfl rfl rfl rfl rfl rfl rfl (by simp; omega) rfl⟩) fun K hK => ?_
        refine OpT.appendOE rfl rfl rfl rfl rfl rfl (by decide) (by simp [D.row]) rfl rfl rfl rfl rfl rfl rfl (by simp; omega) ?_
        simp only [nrm, Nat.reduceBEq, Nat.reduceBNe, reduceIte]
        refine hK _ ?_
        clear hK K
        refine TU.valE (by decide) rfl (yes_none rfl) (by exact Val.index rfl rfl rfl rfl rfl (by simp [St.cellAt, St.root, rowAt, setRow, setAt, D.row, D.reRow, listOf, List.getElem?_set_self', List.set_set, hg]; first | rfl | exact ⟨rfl, rfl⟩) (by omega) (by simp; omega)) (by simp only [nput]; rfl) ?_
        refine TU.opK (by decide) rfl (yes_none rfl) fun K hK => ?_
        refine OpT.store (z := 1) rfl rfl rfl rfl (by simp [St.cellAt, St.root, rowAt, setRow, setAt, D.row, D.reRow, listOf, List.getElem?_set_self', List.set_set, hg]; first | rfl | exact ⟨rfl, rfl⟩) rfl (by simp [St.store1, St.storeAll, St.cellAt, St.isMem, St.root, St.wrote, St.kill, St.setRoot, TS.kill, TV.kill, C.kill, Rt.kill, hitR, hitP, shapeOf, setRow, setAt, rowAt, D.row, D.reRow, List.isPrefixOf, List.getElem?_set_self', List.set_set, hg]; rfl) ?_
        simp only [nrm, Nat.reduceBEq, Nat.reduceBNe, reduceIte]
        refine hK _ ?_
        clear hK K
        refine TU.nil ?_
        show TC _ _ _ _ _ _
        refine TC.seq ?_
        refine TC.region ?_
        refine TL.vE (Val.move 1 rfl rfl) ?_
        refine TL.vE (Val.addO rfl rfl rfl) ?_
        refine TL.vE (Val.lss rfl rfl rfl) ?_
        refine TL.vE (Val.assign 1 rfl rfl) ?_
        refine TL.nil ?_
        show TC _ _ _ _ _ _
        refine TC.ret ?_
        exact ⟨.inr rfl, [_], [_], _, [.sl 1 ((s.All.map dInsSS).set m (.sl 1 (g.map dInsS ++ [.sl 2 []]))), .sl 6 (s.Acts.map dAct)], rfl, by decide, rfl, by simp [refV, refC, valC, C.kill, hitR], rfl, rfl, by simp, rfl, ⟨(by rw [begins_gst hw hm hg hv] <;> first | rfl | (simp; done) | (simp only [rScript, dInsSS, dInsS, List.map_set, List.map_append, List.map_cons, List.map_nil]; done) | (simp only [rScript, dInsSS, dInsS, List.map_set, List.map_append, List.map_cons, List.map_nil]; rfl)), resV (by rw [begins_gst hw hm hg hv] <;> first | rfl | (simp; done) | (simp; omega))⟩⟩
      have hk58 := hb
      refine TC.skip ?_
      show TC _ _ _ _ _ _
      refine TC.seq ?_
      have hv : ws ≠ [wGst] := by intro e; first | (rw [e] at hg3; simp at hg3; done) | (have h1 := hx0 (by rw [e]; rfl); rw [e] at h1; rw [ba_beq] at hb; simp only [List.cons.injEq, and_true] at h1; rw [← h1] at hb; simp at hb)
      refine TC.region ?_
      refine TL.vE (Val.move 1 rfl rfl) ?_
      refine TL.opK rfl fun K hK => ?_
      refine OpT.callG rfl rfl rfl rfl rfl rfl ((spec_ReadIns_q hqi).k) (by repeat first | exact .nil | refine Snaps.cons (.ro _) ?_ | refine Snaps.cons (.aggRo rfl) ?_ | refine Snaps.cons (.cptr _) ?_ | refine Snaps.cons (.fn _) ?_ | refine Snaps.cons (.ownRef rfl (by first | assumption | exact whole_map _ _ (fun w c hc => by simp only [D.row, List.mem_cons, List.not_mem_nil, or_false] at hc; subst hc; exact .v _))) ?_ | refine Snaps.cons (.aggR (by repeat first | exact .nil | refine SnapCs.cons (.ro _) ?_ | refine SnapCs.cons (.ref rfl (by first | assumption | exact whole_map _ _ (fun w c hc => by simp only [D.row, List.mem_cons, List.not_mem_nil, or_false] at hc; subst hc; exact .v _))) ?_)) ?_) rfl ?_
      simp only [nrm, Nat.reduceBEq, Nat.reduceBNe, reduceIte]
      refine hK _ ?_
      clear hK K
      refine TL.vE (Val.move 1 rfl rfl) ?_
      refine TL.vE (Val.extract rfl rfl rfl) ?_
      refine TL.vE (Val.extract rfl rfl rfl) ?_
      refine TL.opK rfl fun K hK => ?_
      refine OpT.alloc rfl rfl rfl rfl rfl rfl ?_
      simp only [nrm, Nat.reduceBEq, Nat.reduceBNe, reduceIte]
      refine hK _ ?_
      clear hK K
      refine TL.opK rfl fun K hK => ?_
      refine OpT.storeAgg rfl rfl rfl rfl rfl rfl (by simp [St.store1, St.storeAll, St.cellAt, St.isMem, St.root, St.wrote, St.kill, St.setRoot, TS.kill, TV.kill, C.kill, Rt.kill, hitR, hitP, shapeOf, setRow, setAt, rowAt, D.row, D.reRow, List.isPrefixOf]; rfl) ?_ -- None
      simp only [nrm, Nat.reduceBEq, Nat.reduceBNe, reduceIte]
      refine hK _ ?_
      clear hK K
      refine TL.vE (Val.assign 1 rfl rfl) ?_
      refine TL.nil ?_
      show TC _ _ _ _ _ _
      refine TC.seq ?_
      refine TC.seq ?_
      refine TC.region ?_
      refine TL.vE (Val.move 1 rfl rfl) ?_
      refine TL.vE (Val.not rfl rfl) ?_
      refine TL.vE (Val.move 1 rfl rfl) ?_
      refine TL.splitG 2 rfl (fun hg2 => ?_) (fun hg2 => ?_)
      · iterate 2 (refine TL.skip (nope_b rfl rfl hg2) (by simp only [nput]; rfl) ?_)
        refine TL.vE (Val.pickT rfl rfl hg2 rfl) ?_
        refine TL.vE (Val.move 1 rfl rfl) ?_
        iterate 12 (refine TL.skip (nope_b rfl rfl rfl) (by simp only [nput]; rfl) ?_)
        refine TL.vE (Val.pickT rfl rfl rfl rfl) ?_
        refine TL.nil ?_
        show TC _ _ _ _ _ _
        refine TC.cond rfl (fun hb => ?_) (fun hb => absurd hb (by simp))
        refine TC.seq ?_
        have hacc : begins s line ws = (s, false) := by rcases hqe : qi with _ | i9; exact begins_bad hw hm hg hv (.inl (by rw [hqi, hqe])); rcases hge : g with _ | ⟨x9, l9⟩; exact begins_bad hw hm hg hv (.inr hge); first | (exfalso; rw [hqe] at hg2; simp at hg2; done) | (exfalso; rw [hge] at hg6; simp at hg6; omega) | exact begins_full hw hm hg hv hjl hj (by simp at hb; omega)
        refine TC.region ?_
        refine TL.vE (Val.assign 1 rfl rfl) ?_
        refine TL.nil ?_
        show TC _ _ _ _ _ _
        refine TC.ret ?_
        exact ⟨.inr rfl, [_], [_], _, rScript s, rfl, by decide, rfl, by simp [refV, refC, valC, C.kill, hitR], rfl, rfl, by simp, rfl, ⟨(by rw [hacc] <;> first | rfl | (simp; done) | (simp only [rScript, dInsSS, dInsS, List.map_set, List.map_append, List.map_cons, List.map_nil]; done) | (simp only [rScript, dInsSS, dInsS, List.map_set, List.map_append, List.map_cons, List.map_nil]; rfl)), resV (by rw [hacc] <;> first | rfl | (simp; done) | (simp; omega))⟩⟩
      · refine TL.gE rfl hg2 (Val.move 1 rfl rfl) ?_
        refine TL.gE rfl hg2 (Val.lss rfl rfl rfl) ?_
        refine TL.vE (Val.pickF rfl rfl hg2 rfl) ?_
        refine TL.vE (Val.move 1 rfl rfl) ?_
        refine TL.splitG 6 rfl (fun hg6 => ?_) (fun hg6 => ?_)
        · iterate 12 (refine TL.skip (nope_b rfl rfl hg6) (by simp only [nput]; rfl) ?_)
          refine TL.vE (Val.pickT rfl rfl hg6 rfl) ?_
          refine TL.nil ?_
          show TC _ _ _ _ _ _
          refine TC.cond rfl (fun hb => ?_) (fun hb => absurd hb (by simp))
          refine TC.seq ?_
          have hacc : begins s line ws = (s, false) := by rcases hqe : qi with _ | i9; exact begins_bad hw hm hg hv (.inl (by rw [hqi, hqe])); rcases hge : g with _ | ⟨x9, l9⟩; exact begins_bad hw hm hg hv (.inr hge); first | (exfalso; rw [hqe] at hg2; simp at hg2; done) | (exfalso; rw [hge] at hg6; simp at hg6; omega) | exact begins_full hw hm hg hv hjl hj (by simp at hb; omega)
          refine TC.region ?_
          refine TL.vE (Val.assign 1 rfl rfl) ?_
          refine TL.nil ?_
          show TC _ _ _ _ _ _
          refine TC.ret ?_
          exact ⟨.inr rfl, [_], [_], _, rScript s, rfl, by decide, rfl, by simp [refV, refC, valC, C.kill, hitR], rfl, rfl, by simp, rfl, ⟨(by rw [hacc] <;> first | rfl | (simp; done) | (simp only [rScript, dInsSS, dInsS, List.map_set, List.map_append, List.map_cons, List.map_nil]; done) | (simp only [rScript, dInsSS, dInsS, List.map_set, List.map_append, List.map_cons, List.map_nil]; rfl)), resV (by rw [hacc] <;> first | rfl | (simp; done) | (simp; omega))⟩⟩
        · obtain ⟨j, hjl⟩ : ∃ j, g.length = j + 1 := by cases h : g with | nil => (exfalso; rw [h] at hg6; simp at hg6) | cons x l => exact ⟨l.length, rfl⟩
          obtain ⟨p, hj⟩ := at_of (xs := g) (k := j) (by omega)
          have hj1 : (((g.map dInsS).length : Nat) : Int) - 1 = (j : Int) := by simp; omega
          have hj2 : ((g.length : Nat) : Int) - 1 = (j : Int) := by omega
          have hpl := hgl.2 p (List.mem_of_getElem? hj)
          first | rw [hj1] at hg6 ⊢ | rw [hj2] at hg6 ⊢
          refine TL.gE rfl hg6 (Val.move 1 rfl rfl) ?_
          refine TL.gE rfl hg6 (Val.nilPtr rfl rfl) ?_
          refine TL.guardE rfl rfl hg6 (by first | exact Val.field rfl rfl rfl | exact Val.fieldC rfl rfl rfl) (by simp only [nput, npf, Nat.reduceAdd]; rfl) ?_
          refine TL.guardE rfl rfl hg6 (by first | exact Val.load rfl rfl rfl rfl rfl | exact Val.loadC rfl rfl rfl) (by simp only [nput, valC]; rfl) ?_
          refine TL.gE rfl hg6 (Val.move 1 rfl rfl) ?_
          refine TL.gE rfl hg6 (by exact Val.index rfl rfl rfl rfl rfl rfl (by omega) (by simp; omega)) ?_
          refine TL.guardE rfl rfl hg6 (by exact Val.load rfl rfl rfl (by simp [St.cellAt, St.root, rowAt, setRow, setAt, D.row, D.reRow, listOf, List.getElem?_set_self', List.set_set, hg]; first | rfl | exact ⟨rfl, rfl⟩) rfl) (by simp only [nput, valC]; rfl) ?_
          refine TL.gE rfl hg6 (Val.move 1 rfl rfl) ?_
          refine TL.gE rfl hg6 (by exact Val.index rfl rfl rfl rfl rfl (by simp [St.cellAt, St.root, rowAt, setRow, setAt, D.row, D.reRow, listOf, List.getElem?_set_self', List.set_set, hg]; first | rfl | exact ⟨rfl, rfl⟩) (by omega) (by simp; omega)) ?_
          refine TL.guardE rfl rfl hg6 (by exact Val.load rfl rfl rfl (by simp [St.cellAt, St.root, rowAt, setRow, setAt, D.row, D.reRow, listOf, List.getElem?_set_self', List.set_set, hg, hj]; first | rfl | exact ⟨rfl, rfl⟩) rfl) (by simp only [nput, valC]; rfl) ?_
          refine TL.gE rfl hg6 (by exact Val.len rfl rfl (by simp [St.cellAt, St.root, rowAt, setRow, setAt, D.row, D.reRow, listOf, List.getElem?_set_self', List.set_set, hg, hj]; first | rfl | exact ⟨rfl, rfl⟩) rfl) ?_
          refine TL.gE rfl hg6 (Val.geq rfl rfl rfl) ?_
          refine TL.vE (Val.pickF rfl rfl hg6 rfl) ?_
          refine TL.nil ?_
          show TC _ _ _ _ _ _
          refine TC.cond rfl (fun hb => ?_) (fun hb => ?_)
          · have hk102 := hb
            refine TC.seq ?_
            have hacc : begins s line ws = (s, false) := by rcases hqe : qi with _ | i9; exact begins_bad hw hm hg hv (.inl (by rw [hqi, hqe])); rcases hge : g with _ | ⟨x9, l9⟩; exact begins_bad hw hm hg hv (.inr hge); first | (exfalso; rw [hqe] at hg2; simp at hg2; done) | (exfalso; rw [hge] at hg6; simp at hg6; omega) | exact begins_full hw hm hg hv hjl hj (by simp at hb; omega)
            refine TC.region ?_
            refine TL.vE (Val.assign 1 rfl rfl) ?_
            refine TL.nil ?_
            show TC _ _ _ _ _ _
            refine TC.ret ?_
            exact ⟨.inr rfl, [_], [_], _, rScript s, rfl, by decide, rfl, by simp [refV, refC, valC, C.kill, hitR], rfl, rfl, by simp, rfl, ⟨(by rw [hacc] <;> first | rfl | (simp; done) | (simp only [rScript, dInsSS, dInsS, List.map_set, List.map_append, List.map_cons, List.map_nil]; done) | (simp only [rScript, dInsSS, dInsS, List.map_set, List.map_append, List.map_cons, List.map_nil]; rfl)), resV (by rw [hacc] <;> first | rfl | (simp; done) | (simp; omega))⟩⟩
          have hk102 := hb
          refine TC.skip ?_
          show TC _ _ _ _ _ _
          refine TC.seq ?_
          obtain ⟨i, rfl⟩ : ∃ i, qi = some i := by cases qi <;> simp at hg2 <;> exact ⟨_, rfl⟩
          have hpl12 : p.length < 12 := by simp at hb; omega
          refine TC.regionV [20, 22] [20] [0, 46] [(0, 2), (1, 2), (2, 2), (3, 2), (4, 2), (5, 2), (6, 2), (7, 2), (8, 0), (9, 0), (10, 0), (11, 0), (12, 0), (13, 0), (14, 0), (15, 0), (16, 0), (17, 0), (18, 0), (19, 1), (20, 1), (21, 0), (22, 1)] rfl (by decide +kernel) ?_
          refine TU.valS (by decide) rfl (yes_none rfl) (ValS.pure (Val.move 1 rfl rfl) rfl) (by simp only [nput]; rfl) ?_
          refine TU.valS (by decide) rfl (yes_none rfl) (ValS.nilPtr rfl rfl) (by simp only [nput]; rfl) ?_
          refine TU.valS (by decide) rfl (yes_none rfl) (by first | exact ValS.field rfl rfl rfl | exact ValS.fieldC rfl rfl rfl) (by simp only [nput, npf, Nat.reduceAdd]; rfl) ?_
          refine TU.valS (by decide) rfl (yes_none rfl) (by exact ValS.load rfl rfl 0 (by decide) rfl rfl (by simp [St.cellAt, St.root, rowAt, setRow, setAt, D.row, D.reRow, listOf, List.getElem?_set_self', List.set_set, hg]; first | rfl | exact ⟨rfl, rfl⟩) rfl) (by simp only [nput, valC]; rfl) ?_
          refine TU.valS (by decide) rfl (yes_none rfl) (ValS.pure (Val.move 1 rfl rfl) rfl) (by simp only [nput]; rfl) ?_
          refine TU.valS (by decide) rfl (yes_none rfl) (by exact ValS.index rfl rfl rfl rfl rfl (by simp [St.cellAt, St.root, rowAt, setRow, setAt, D.row, D.reRow, listOf, List.getElem?_set_self', List.set_set, hg]; first | rfl | exact ⟨rfl, rfl⟩) (by omega) (by simp; omega)) (by simp only [nput]; rfl) ?_
          refine TU.valS (by decide) rfl (yes_none rfl) (by exact ValS.load rfl rfl 46 (by decide) rfl rfl (by simp [St.cellAt, St.root, rowAt, setRow, setAt, D.row, D.reRow, listOf, List.getElem?_set_self', List.set_set, hg]; first | rfl | exact ⟨rfl, rfl⟩) rfl) (by simp only [nput, valC]; rfl) ?_
          refine TU.valS (by decide) rfl (yes_none rfl) (ValS.pure (Val.move 1 rfl rfl) rfl) (by simp only [nput]; rfl) ?_
          refine TU.valE (by decide) rfl (yes_none rfl) (Val.move 1 rfl rfl) (by simp only [nput]; rfl) ?_
          refine TU.valE (by decide) rfl (yes_none rfl) (Val.nilPtr rfl rfl) (by simp only [nput]; rfl) ?_
          refine TU.valE (by decide) rfl (yes_none rfl) (by first | exact Val.field rfl rfl rfl | exact Val.fieldC rfl rfl rfl) (by simp only [nput, npf, Nat.reduceAdd]; rfl) ?_
          refine TU.valE (by decide) rfl (yes_none rfl) (by first | exact Val.load rfl rfl rfl rfl rfl | exact Val.loadC rfl rfl rfl) (by simp only [nput, valC]; rfl) ?_
          refine TU.valE (by decide) rfl (yes_none rfl) (Val.move 1 rfl rfl) (by simp only [nput]; rfl) ?_
          refine TU.valE (by decide) rfl (yes_none rfl) (by exact Val.index rfl rfl rfl rfl rfl (by simp [St.cellAt, St.root, rowAt, setRow, setAt, D.row, D.reRow, listOf, List.getElem?_set_self', List.set_set, hg]; first | rfl | exact ⟨rfl, rfl⟩) (by omega) (by simp; omega)) (by simp only [nput]; rfl) ?_
          refine TU.valE (by decide) rfl (yes_none rfl) (by exact Val.load rfl rfl rfl (by simp [St.cellAt, St.root, rowAt, setRow, setAt, D.row, D.reRow, listOf, List.getElem?_set_self', List.set_set, hg]; first | rfl | exact ⟨rfl, rfl⟩) rfl) (by simp only [nput, valC]; rfl) ?_
          refine TU.valE (by decide) rfl (yes_none rfl) (Val.move 1 rfl rfl) (by simp only [nput]; rfl) ?_
          refine TU.valE (by decide) rfl (yes_none rfl) (by exact Val.index rfl rfl rfl rfl rfl (by simp [St.cellAt, St.root, rowAt, setRow, setAt, D.row, D.reRow, listOf, List.getElem?_set_self', List.set_set, hg]; first | rfl | exact ⟨rfl, rfl⟩) (by omega) (by simp; omega)) (by simp only [nput]; rfl) ?_
          refine TU.valE (by decide) rfl (yes_none rfl) (by exact Val.load rfl rfl rfl (by simp [St.cellAt, St.root, rowAt, setRow, setAt, D.row, D.reRow, listOf, List.getElem?_set_self', List.set_set, hg, hj]; first | rfl | exact ⟨rfl, rfl⟩) rfl) (by simp only [nput, valC]; rfl) ?_
          refine TU.valE (by decide) rfl (yes_none rfl) (by first | exact Val.loadCAgg (n := 2) rfl rfl rfl rfl (Nat.le_of_ble_eq_true rfl) | exact Val.loadAgg (n := 2) rfl rfl rfl rfl (by simp [St.cellsAt, St.cellAt, St.root, valC]; rfl) rfl | exact Val.loadAgg (n := 2) rfl rfl rfl rfl rfl rfl) (by simp only [St.put, List.set_cons_succ, List.set_cons_zero, valC, dIns, rIns, D.row, List.take_succ_cons, List.take_zero, List.map_cons, List.map_nil]; rfl) ?_
          refine TU.takeN 1000001 [(0, m), (0, j)] 0 3000 (by simp [St.takeN, St.cellAt, rowAt, setRow, setAt, D.row, D.reRow, reT, reC, St.take, St.root, St.fresh, St.kill, St.setRoot, TS.kill, TV.kill, C.kill, Rt.kill, hitR, hitP, shapeOf, List.isPrefixOf, List.getElem?_set_self', List.set_set, hg, hj]; rfl) ?_
          refine TU.opM (by decide) rfl (yes_none rfl) fun K hK => ?_
          refine OpM.of (build_value rfl) (fun w0 g0 => ⟨_, OpT.buildP rfl rfl (xs := [(Go.Operand.tmp 121)]) rfl rfl rfl rfl (sz := 2) rfl rfl rfl (by decide) (by decide) rfl⟩) ?_
          refine OpT.buildP rfl rfl (xs := [(Go.Operand.tmp 121)]) rfl rfl rfl rfl (sz := 2) rfl rfl rfl (by decide) (by decide) ?_
          simp only [nrm, Nat.reduceBEq, Nat.reduceBNe, reduceIte]
          refine hK _ ?_
          clear hK K
          refine TU.opB [3000, 122] (by decide) rfl (yes_none rfl) rfl (.cons rfl (by simp [St.cellAt, St.root, rowAt, setRow, setAt, D.row, D.reRow, listOf, List.getElem?_set_self', List.set_set, hg, hj]; first | rfl | exact ⟨rfl, rfl⟩) rfl rfl (.cons rfl (by simp [St.cellAt, St.root, rowAt, setRow, setAt, D.row, D.reRow, listOf, List.getElem?_set_self', List.set_set, hg, hj]; first | rfl | exact ⟨rfl, rfl⟩) rfl rfl .nil)) (fun w0 g0 => ⟨_, OpT.appendE rfl rfl rfl (sz := 2) rfl rfl rfl (by simp [isPlain, D.row, elD, cellD]) rfl rfl rfl rfl rfl rfl rfl (by simp; omega) rfl⟩) fun K hK => ?_
          refine OpT.appendE rfl rfl rfl (sz := 2) rfl rfl rfl (by simp [isPlain, D.row, elD, cellD]) rfl rfl rfl rfl rfl rfl rfl (by simp; omega) ?_
          simp only [nrm, Nat.reduceBEq, Nat.reduceBNe, reduceIte]
          refine hK _ ?_
          clear hK K
          refine TU.valE (by decide) rfl (yes_none rfl) (by exact Val.index rfl rfl rfl rfl rfl (by simp [St.cellAt, St.root, rowAt, setRow, setAt, D.row, D.reRow, listOf, List.getElem?_set_self', List.set_set, hg, hj]; first | rfl | exact ⟨rfl, rfl⟩) (by omega) (by simp; omega)) (by simp only [nput]; rfl) ?_
          refine TU.opK (by decide) rfl (yes_none rfl) fun K hK => ?_
          refine OpT.store (z := 1) rfl rfl rfl rfl (by simp [St.cellAt, St.root, rowAt, setRow, setAt, D.row, D.reRow, listOf, List.getElem?_set_self', List.set_set, hg, hj]; first | rfl | exact ⟨rfl, rfl⟩) rfl (by simp [St.store1, St.storeAll, St.cellAt, St.isMem, St.root, St.wrote, St.kill, St.setRoot, TS.kill, TV.kill, C.kill, Rt.kill, hitR, hitP, shapeOf, setRow, setAt, rowAt, D.row, D.reRow, List.isPrefixOf, List.getElem?_set_self', List.set_set, hg, hj]; rfl) ?_
          simp only [nrm, Nat.reduceBEq, Nat.reduceBNe, reduceIte]
          refine hK _ ?_
          clear hK K
          refine TU.nil ?_
          show TC _ _ _ _ _ _
          refine TC.seq ?_
          refine TC.region ?_
          refine TL.vE (Val.assign 1 rfl rfl) ?_
          refine TL.nil ?_
          show TC _ _ _ _ _ _
          refine TC.ret ?_
          exact ⟨.inr rfl, [_], [_], _, [.sl 1 ((s.All.map dInsSS).set m (.sl 1 ((g.map dInsS).set j (.sl 2 (p.map dIns ++ [dIns i]))))), .sl 6 (s.Acts.map dAct)], rfl, by decide, rfl, by simp [refV, refC, valC, C.kill, hitR], rfl, rfl, by simp, rfl, ⟨(by rw [begins_ins hw hm hg hv hqi hjl hj hpl12] <;> first | rfl | (simp; done) | (simp only [rScript, dInsSS, dInsS, List.map_set, List.map_append, List.map_cons, List.map_nil]; done) | (simp only [rScript, dInsSS, dInsS, List.map_set, List.map_append, List.map_cons, List.map_nil]; rfl)), resV (by rw [begins_ins hw hm hg hv hqi hjl hj hpl12] <;> first | rfl | (simp; done) | (simp; omega))⟩⟩
    · iterate 4 (refine TL.skip (nope_b rfl rfl hg3) (by simp only [nput]; rfl) ?_)
      refine TL.vE (Val.pickF rfl rfl hg3 rfl) ?_
      refine TL.nil ?_
      show TC _ _ _ _ _ _
      refine TC.cond rfl (fun hb => absurd hb (by simp)) (fun hb => ?_)
      refine TC.skip ?_
      show TC _ _ _ _ _ _
      refine TC.seq ?_
      have hv : ws ≠ [wGst] := by intro e; first | (rw [e] at hg3; simp at hg3; done) | (have h1 := hx0 (by rw [e]; rfl); rw [e] at h1; rw [ba_beq] at hb; simp only [List.cons.injEq, and_true] at h1; rw [← h1] at hb; simp at hb)
      refine TC.region ?_
      refine TL.vE (Val.move 1 rfl rfl) ?_
      refine TL.opK rfl fun K hK => ?_
      refine OpT.callG rfl rfl rfl rfl rfl rfl ((spec_ReadIns_q hqi).k) (by repeat first | exact .nil | refine Snaps.cons (.ro _) ?_ | refine Snaps.cons (.aggRo rfl) ?_ | refine Snaps.cons (.cptr _) ?_ | refine Snaps.cons (.fn _) ?_ | refine Snaps.cons (.ownRef rfl (by first | assumption | exact whole_map _ _ (fun w c hc => by simp only [D.row, List.mem_cons, List.not_mem_nil, or_false] at hc; subst hc; exact .v _))) ?_ | refine Snaps.cons (.aggR (by repeat first | exact .nil | refine SnapCs.cons (.ro _) ?_ | refine SnapCs.cons (.ref rfl (by first | assumption | exact whole_map _ _ (fun w c hc => by simp only [D.row, List.mem_cons, List.not_mem_nil, or_false] at hc; subst hc; exact .v _))) ?_)) ?_) rfl ?_
      simp only [nrm, Nat.reduceBEq, Nat.reduceBNe, reduceIte]
      refine hK _ ?_
      clear hK K
      refine TL.vE (Val.move 1 rfl rfl) ?_
      refine TL.vE (Val.extract rfl rfl rfl) ?_
      refine TL.vE (Val.extract rfl rfl rfl) ?_
      refine TL.opK rfl fun K hK => ?_
      refine OpT.alloc rfl rfl rfl rfl rfl rfl ?_
      simp only [nrm, Nat.reduceBEq, Nat.reduceBNe, reduceIte]
      refine hK _ ?_
      clear hK K
      refine TL.opK rfl fun K hK => ?_
      refine OpT.storeAgg rfl rfl rfl rfl rfl rfl (by simp [St.store1, St.storeAll, St.cellAt, St.isMem, St.root, St.wrote, St.kill, St.setRoot, TS.kill, TV.kill, C.kill, Rt.kill, hitR, hitP, shapeOf, setRow, setAt, rowAt, D.row, D.reRow, List.isPrefixOf]; rfl) ?_ -- None
      simp only [nrm, Nat.reduceBEq, Nat.reduceBNe, reduceIte]
      refine hK _ ?_
      clear hK K
      refine TL.vE (Val.assign 1 rfl rfl) ?_
      refine TL.nil ?_
      show TC _ _ _ _ _ _
      refine TC.seq ?_
      refine TC.seq ?_
      refine TC.region ?_
      refine TL.vE (Val.move 1 rfl rfl) ?_
      refine TL.vE (Val.not rfl rfl) ?_
      refine TL.vE (Val.move 1 rfl rfl) ?_
      refine TL.splitG 2 rfl (fun hg2 => ?_) (fun hg2 => ?_)
      · iterate 2 (refine TL.skip (nope_b rfl rfl hg2) (by simp only [nput]; rfl) ?_)
        refine TL.vE (Val.pickT rfl rfl hg2 rfl) ?_
        refine TL.vE (Val.move 1 rfl rfl) ?_
        iterate 12 (refine TL.skip (nope_b rfl rfl rfl) (by simp only [nput]; rfl) ?_)
        refine TL.vE (Val.pickT rfl rfl rfl rfl) ?_
        refine TL.nil ?_
        show TC _ _ _ _ _ _
        refine TC.cond rfl (fun hb => ?_) (fun hb => absurd hb (by simp))
        refine TC.seq ?_
        have hacc : begins s line ws = (s, false) := by rcases hqe : qi with _ | i9; exact begins_bad hw hm hg hv (.inl (by rw [hqi, hqe])); rcases hge : g with _ | ⟨x9, l9⟩; exact begins_bad hw hm hg hv (.inr hge); first | (exfalso; rw [hqe] at hg2; simp at hg2; done) | (exfalso; rw [hge] at hg6; simp at hg6; omega) | exact begins_full hw hm hg hv hjl hj (by simp at hb; omega)
        refine TC.region ?_
        refine TL.vE (Val.assign 1 rfl rfl) ?_
        refine TL.nil ?_
        show TC _ _ _ _ _ _
        refine TC.ret ?_
        exact ⟨.inr rfl, [_], [_], _, rScript s, rfl, by decide, rfl, by simp [refV, refC, valC, C.kill, hitR], rfl, rfl, by simp, rfl, ⟨(by rw [hacc] <;> first | rfl | (simp; done) | (simp only [rScript, dInsSS, dInsS, List.map_set, List.map_append, List.map_cons, List.map_nil]; done) | (simp only [rScript, dInsSS, dInsS, List.map_set, List.map_append, List.map_cons, List.map_nil]; rfl)), resV (by rw [hacc] <;> first | rfl | (simp; done) | (simp; omega))⟩⟩
      · refine TL.gE rfl hg2 (Val.move 1 rfl rfl) ?_
        refine TL.gE rfl hg2 (Val.lss rfl rfl rfl) ?_
        refine TL.vE (Val.pickF rfl rfl hg2 rfl) ?_
        refine TL.vE (Val.move 1 rfl rfl) ?_
        refine TL.splitG 6 rfl (fun hg6 => ?_) (fun hg6 => ?_)
        · iterate 12 (refine TL.skip (nope_b rfl rfl hg6) (by simp only [nput]; rfl) ?_)
          refine TL.vE (Val.pickT rfl rfl hg6 rfl) ?_
          refine TL.nil ?_
          show TC _ _ _ _ _ _
          refine TC.cond rfl (fun hb => ?_) (fun hb => absurd hb (by simp))
          refine TC.seq ?_
          have hacc : begins s line ws = (s, false) := by rcases hqe : qi with _ | i9; exact begins_bad hw hm hg hv (.inl (by rw [hqi, hqe])); rcases hge : g with _ | ⟨x9, l9⟩; exact begins_bad hw hm hg hv (.inr hge); first | (exfalso; rw [hqe] at hg2; simp at hg2; done) | (exfalso; rw [hge] at hg6; simp at hg6; omega) | exact begins_full hw hm hg hv hjl hj (by simp at hb; omega)
          refine TC.region ?_
          refine TL.vE (Val.assign 1 rfl rfl) ?_
          refine TL.nil ?_
          show TC _ _ _ _ _ _
          refine TC.ret ?_
          exact ⟨.inr rfl, [_], [_], _, rScript s, rfl, by decide, rfl, by simp [refV, refC, valC, C.kill, hitR], rfl, rfl, by simp, rfl, ⟨(by rw [hacc] <;> first | rfl | (simp; done) | (simp only [rScript, dInsSS, dInsS, List.map_set, List.map_append, List.map_cons, List.map_nil]; done) | (simp only [rScript, dInsSS, dInsS, List.map_set, List.map_append, List.map_cons, List.map_nil]; rfl)), resV (by rw [hacc] <;> first | rfl | (simp; done) | (simp; omega))⟩⟩
        · obtain ⟨j, hjl⟩ : ∃ j, g.length = j + 1 := by cases h : g with | nil => (exfalso; rw [h] at hg6; simp at hg6) | cons x l => exact ⟨l.length, rfl⟩
          obtain ⟨p, hj⟩ := at_of (xs := g) (k := j) (by omega)
          have hj1 : (((g.map dInsS).length : Nat) : Int) - 1 = (j : Int) := by simp; omega
          have hj2 : ((g.length : Nat) : Int) - 1 = (j : Int) := by omega
          have hpl := hgl.2 p (List.mem_of_getElem? hj)
          first | rw [hj1] at hg6 ⊢ | rw [hj2] at hg6 ⊢
          refine TL.gE rfl hg6 (Val.move 1 rfl rfl) ?_
          refine TL.gE rfl hg6 (Val.nilPtr rfl rfl) ?_
          refine TL.guardE rfl rfl hg6 (by first | exact Val.field rfl rfl rfl | exact Val.fieldC rfl rfl rfl) (by simp only [nput, npf, Nat.reduceAdd]; rfl) ?_
          refine TL.guardE rfl rfl hg6 (by first | exact Val.load rfl rfl rfl rfl rfl | exact Val.loadC rfl rfl rfl) (by simp only [nput, valC]; rfl) ?_
          refine TL.gE rfl hg6 (Val.move 1 rfl rfl) ?_
          refine TL.gE rfl hg6 (by exact Val.index rfl rfl rfl rfl rfl rfl (by omega) (by simp; omega)) ?_
          refine TL.guardE rfl rfl hg6 (by exact Val.load rfl rfl rfl (by simp [St.cellAt, St.root, rowAt, setRow, setAt, D.row, D.reRow, listOf, List.getElem?_set_self', List.set_set, hg]; first | rfl | exact ⟨rfl, rfl⟩) rfl) (by simp only [nput, valC]; rfl) ?_
          refine TL.gE rfl hg6 (Val.move 1 rfl rfl) ?_
          refine TL.gE rfl hg6 (by exact Val.index rfl rfl rfl rfl rfl (by simp [St.cellAt, St.root, rowAt, setRow, setAt, D.row, D.reRow, listOf, List.getElem?_set_self', List.set_set, hg]; first | rfl | exact ⟨rfl, rfl⟩) (by omega) (by simp; omega)) ?_
          refine TL.guardE rfl rfl hg6 (by exact Val.load rfl rfl rfl (by simp [St.cellAt, St.root, rowAt, setRow, setAt, D.row, D.reRow, listOf, List.getElem?_set_self', List.set_set, hg, hj]; first | rfl | exact ⟨rfl, rfl⟩) rfl) (by simp only [nput, valC]; rfl) ?_
          refine TL.gE rfl hg6 (by exact Val.len rfl rfl (by simp [St.cellAt, St.root, rowAt, setRow, setAt, D.row, D.reRow, listOf, List.getElem?_set_self', List.set_set, hg, hj]; first | rfl | exact ⟨rfl, rfl⟩) rfl) ?_
          refine TL.gE rfl hg6 (Val.geq rfl rfl rfl) ?_
          refine TL.vE (Val.pickF rfl rfl hg6 rfl) ?_
          refine TL.nil ?_
          show TC _ _ _ _ _ _
          refine TC.cond rfl (fun hb => ?_) (fun hb => ?_)
          · have hk102 := hb
            refine TC.seq ?_
            have hacc : begins s line ws = (s, false) := by rcases hqe : qi with _ | i9; exact begins_bad hw hm hg hv (.inl (by rw [hqi, hqe])); rcases hge : g with _ | ⟨x9, l9⟩; exact begins_bad hw hm hg hv (.inr hge); first | (exfalso; rw [hqe] at hg2; simp at hg2; done) | (exfalso; rw [hge] at hg6; simp at hg6; omega) | exact begins_full hw hm hg hv hjl hj (by simp at hb; omega)
            refine TC.region ?_
            refine TL.vE (Val.assign 1 rfl rfl) ?_
            refine TL.nil ?_
            show TC _ _ _ _ _ _
            refine TC.ret ?_
            exact ⟨.inr rfl, [_], [_], _, rScript s, rfl, by decide, rfl, by simp [refV, refC, valC, C.kill, hitR], rfl, rfl, by simp, rfl, ⟨(by rw [hacc] <;> first | rfl | (simp; done) | (simp only [rScript, dInsSS, dInsS, List.map_set, List.map_append, List.map_cons, List.map_nil]; done) | (simp only [rScript, dInsSS, dInsS, List.map_set, List.map_append, List.map_cons, List.map_nil]; rfl)), resV (by rw [hacc] <;> first | rfl | (simp; done) | (simp; omega))⟩⟩
          have hk102 := hb
          refine TC.skip ?_
          show TC _ _ _ _ _ _
          refine TC.seq ?_
          obtain ⟨i, rfl⟩ : ∃ i, qi = some i := by cases qi <;> simp at hg2 <;> exact ⟨_, rfl⟩
          have hpl12 : p.length < 12 := by simp at hb; omega
          refine TC.regionV [20, 22] [20] [0, 46] [(0, 2), (1, 2), (2, 2), (3, 2), (4, 2), (5, 2), (6, 2), (7, 2), (8, 0), (9, 0), (10, 0), (11, 0), (12, 0), (13, 0), (14, 0), (15, 0), (16, 0), (17, 0), (18, 0), (19, 1), (20, 1), (21, 0), (22, 1)] rfl (by decide +kernel) ?_
          refine TU.valS (by decide) rfl (yes_none rfl) (ValS.pure (Val.move 1 rfl rfl) rfl) (by simp only [nput]; rfl) ?_
          refine TU.valS (by decide) rfl (yes_none rfl) (ValS.nilPtr rfl rfl) (by simp only [nput]; rfl) ?_
          refine TU.valS (by decide) rfl (yes_none rfl) (by first | exact ValS.field rfl rfl rfl | exact ValS.fieldC rfl rfl rfl) (by simp only [nput, npf, Nat.reduceAdd]; rfl) ?_
          refine TU.valS (by decide) rfl (yes_none rfl) (by exact ValS.load rfl rfl 0 (by decide) rfl rfl (by simp [St.cellAt, St.root, rowAt, setRow, setAt, D.row, D.reRow, listOf, List.getElem?_set_self', List.set_set, hg]; first | rfl | exact ⟨rfl, rfl⟩) rfl) (by simp only [nput, valC]; rfl) ?_
          refine TU.valS (by decide) rfl (yes_none rfl) (ValS.pure (Val.move 1 rfl rfl) rfl) (by simp only [nput]; rfl) ?_
          refine TU.valS (by decide) rfl (yes_none rfl) (by exact ValS.index rfl rfl rfl rfl rfl (by simp [St.cellAt, St.root, rowAt, setRow, setAt, D.row, D.reRow, listOf, List.getElem?_set_self', List.set_set, hg]; first | rfl | exact ⟨rfl, rfl⟩) (by omega) (by simp; omega)) (by simp only [nput]; rfl) ?_
          refine TU.valS (by decide) rfl (yes_none rfl) (by exact ValS.load rfl rfl 46 (by decide) rfl rfl (by simp [St.cellAt, St.root, rowAt, setRow, setAt, D.row, D.reRow, listOf, List.getElem?_set_self', List.set_set, hg]; first | rfl | exact ⟨rfl, rfl⟩) rfl) (by simp only [nput, valC]; rfl) ?_
          refine TU.valS (by decide) rfl (yes_none rfl) (ValS.pure (Val.move 1 rfl rfl) rfl) (by simp only [nput]; rfl) ?_
          refine TU.valE (by decide) rfl (yes_none rfl) (Val.move 1 rfl rfl) (by simp only [nput]; rfl) ?_
          refine TU.valE (by decide) rfl (yes_none rfl) (Val.nilPtr rfl rfl) (by simp only [nput]; rfl) ?_
          refine TU.valE (by decide) rfl (yes_none rfl) (by first | exact Val.field rfl rfl rfl | exact Val.fieldC rfl rfl rfl) (by simp only [nput, npf, Nat.reduceAdd]; rfl) ?_
          refine TU.valE (by decide) rfl (yes_none rfl) (by first | exact Val.load rfl rfl rfl rfl rfl | exact Val.loadC rfl rfl rfl) (by simp only [nput, valC]; rfl) ?_
          refine TU.valE (by decide) rfl (yes_none rfl) (Val.move 1 rfl rfl) (by simp only [nput]; rfl) ?_
          refine TU.valE (by decide) rfl (yes_none rfl) (by exact Val.index rfl rfl rfl rfl rfl (by simp [St.cellAt, St.root, rowAt, setRow, setAt, D.row, D.reRow, listOf, List.getElem?_set_self', List.set_set, hg]; first | rfl | exact ⟨rfl, rfl⟩) (by omega) (by simp; omega)) (by simp only [nput]; rfl) ?_
          refine TU.valE (by decide) rfl (yes_none rfl) (by exact Val.load rfl rfl rfl (by simp [St.cellAt, St.root, rowAt, setRow, setAt, D.row, D.reRow, listOf, List.getElem?_set_self', List.set_set, hg]; first | rfl | exact ⟨rfl, rfl⟩) rfl) (by simp only [nput, valC]; rfl) ?_
          refine TU.valE (by decide) rfl (yes_none rfl) (Val.move 1 rfl rfl) (by simp only [nput]; rfl) ?_
          refine TU.valE (by decide) rfl (yes_none rfl) (by exact Val.index rfl rfl rfl rfl rfl (by simp [St.cellAt, St.root, rowAt, setRow, setAt, D.row, D.reRow, listOf, List.getElem?_set_self', List.set_set, hg]; first | rfl | exact ⟨rfl, rfl⟩) (by omega) (by simp; omega)) (by simp only [nput]; rfl) ?_
          refine TU.valE (by decide) rfl (yes_none rfl) (by exact Val.load rfl rfl rfl (by simp [St.cellAt, St.root, rowAt, setRow, setAt, D.row, D.reRow, listOf, List.getElem?_set_self', List.set_set, hg, hj]; first | rfl | exact ⟨rfl, rfl⟩) rfl) (by simp only [nput, valC]; rfl) ?_
          refine TU.valE (by decide) rfl (yes_none rfl) (by first | exact Val.loadCAgg (n := 2) rfl rfl rfl rfl (Nat.le_of_ble_eq_true rfl) | exact Val.loadAgg (n := 2) rfl rfl rfl rfl (by simp [St.cellsAt, St.cellAt, St.root, valC]; rfl) rfl | exact Val.loadAgg (n := 2) rfl rfl rfl rfl rfl rfl) (by simp only [St.put, List.set_cons_succ, List.set_cons_zero, valC, dIns, rIns, D.row, List.take_succ_cons, List.take_zero, List.map_cons, List.map_nil]; rfl) ?_
          refine TU.takeN 1000001 [(0, m), (0, j)] 0 3000 (by simp [St.takeN, St.cellAt, rowAt, setRow, setAt, D.row, D.reRow, reT, reC, St.take, St.root, St.fresh, St.kill, St.setRoot, TS.kill, TV.kill, C.kill, Rt.kill, hitR, hitP, shapeOf, List.isPrefixOf, List.getElem?_set_self', List.set_set, hg, hj]; rfl) ?_
          refine TU.opM (by decide) rfl (yes_none rfl) fun K hK => ?_
          refine OpM.of (build_value rfl) (fun w0 g0 => ⟨_, OpT.buildP rfl rfl (xs := [(Go.Operand.tmp 121)]) rfl rfl rfl rfl (sz := 2) rfl rfl rfl (by decide) (by decide) rfl⟩) ?_
          refine OpT.buildP rfl rfl (xs := [(Go.Operand.tmp 121)]) rfl rfl rfl rfl (sz := 2) rfl rfl rfl (by decide) (by decide) ?_
          simp only [nrm, Nat.reduceBEq, Nat.reduceBNe, reduceIte]
          refine hK _ ?_
          clear hK K
          refine TU.opB [3000, 122] (by decide) rfl (yes_none rfl) rfl (.cons rfl (by simp [St.cellAt, St.root, rowAt, setRow, setAt, D.row, D.reRow, listOf, List.getElem?_set_self', List.set_set, hg, hj]; first | rfl | exact ⟨rfl, rfl⟩) rfl rfl (.cons rfl (by simp [St.cellAt, St.root, rowAt, setRow, setAt, D.row, D.reRow, listOf, List.getElem?_set_self', List.set_set, hg, hj]; first | rfl | exact ⟨rfl, rfl⟩) rfl rfl .nil)) (fun w0 g0 => ⟨_, OpT.appendE rfl rfl rfl (sz := 2) rfl rfl rfl (by simp [isPlain, D.row, elD, cellD]) rfl rfl rfl rfl rfl rfl rfl (by simp; omega) rfl⟩) fun K hK => ?_
          refine OpT.appendE rfl rfl rfl (sz := 2) rfl rfl rfl (by simp [isPlain, D.row, elD, cellD]) rfl rfl rfl rfl rfl rfl rfl (by simp; omega) ?_
          simp only [nrm, Nat.reduceBEq, Nat.reduceBNe, reduceIte]
          refine hK _ ?_
          clear hK K
          refine TU.valE (by decide) rfl (yes_none rfl) (by exact Val.index rfl rfl rfl rfl rfl (by simp [St.cellAt, St.root, rowAt, setRow, setAt, D.row, D.reRow, listOf, List.getElem?_set_self', List.set_set, hg, hj]; first | rfl | exact ⟨rfl, rfl⟩) (by omega) (by simp; omega)) (by simp only [nput]; rfl) ?_
          refine TU.opK (by decide) rfl (yes_none rfl) fun K hK => ?_
          refine OpT.store (z := 1) rfl rfl rfl rfl (by simp [St.cellAt, St.root, rowAt, setRow, setAt, D.row, D.reRow, listOf, List.getElem?_set_self', List.set_set, hg, hj]; first | rfl | exact ⟨rfl, rfl⟩) rfl (by simp [St.store1, St.storeAll, St.cellAt, St.isMem, St.root, St.wrote, St.kill, St.setRoot, TS.kill, TV.kill, C.kill, Rt.kill, hitR, hitP, shapeOf, setRow, setAt, rowAt, D.row, D.reRow, List.isPrefixOf, List.getElem?_set_self', List.set_set, hg, hj]; rfl) ?_
          simp only [nrm, Nat.reduceBEq, Nat.reduceBNe, reduceIte]
          refine hK _ ?_
          clear hK K
          refine TU.nil ?_
          show TC _ _ _ _ _ _
          refine TC.seq ?_
          refine TC.region ?_
          refine TL.vE (Val.assign 1 rfl rfl) ?_
          refine TL.nil ?_
          show TC _ _ _ _ _ _
          refine TC.ret ?_
          exact ⟨.inr rfl, [_], [_], _, [.sl 1 ((s.All.map dInsSS).set m (.sl 1 ((g.map dInsS).set j (.sl 2 (p.map dIns ++ [dIns i]))))), .sl 6 (s.Acts.map dAct)], rfl, by decide, rfl, by simp [refV, refC, valC, C.kill, hitR], rfl, rfl, by simp, rfl, ⟨(by rw [begins_ins hw hm hg hv hqi hjl hj hpl12] <;> first | rfl | (simp; done) | (simp only [rScript, dInsSS, dInsS, List.map_set, List.map_append, List.map_cons, List.map_nil]; done) | (simp only [rScript, dInsSS, dInsS, List.map_set, List.map_append, List.map_cons, List.map_nil]; rfl)), resV (by rw [begins_ins hw hm hg hv hqi hjl hj hpl12] <;> first | rfl | (simp; done) | (simp; omega))⟩⟩
end Go.Proofs.YtfbjcdhphhfpfaaGreatDoor.T

