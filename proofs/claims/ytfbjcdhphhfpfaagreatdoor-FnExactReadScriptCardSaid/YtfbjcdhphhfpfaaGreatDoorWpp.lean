/- Lines parted into words: both sides' walks. PRINTED by gen.py out of spec_parts.py. -/
import Derived.Test.YtfbjcdhphhfpfaaGreatDoorT3p
import Derived.Test.YtfbjcdhphhfpfaaGreatDoorWkp
namespace Go.Proofs.YtfbjcdhphhfpfaaGreatDoor.T
open Go
set_option linter.unusedVariables false
set_option linter.unusedSimpArgs false
set_option maxRecDepth 100000
set_option maxHeartbeats 1000000

theorem spec_PartsOf_f (s : ByteArray) : Fun Tryz.prog 10 [S s] (RParts (parts s)) := by
  refine Fun.of Tryz.func10 rfl (by simp [Tryz.ntmps10]) fun w g0 => ?_
  simp only [Tryz.ntmps10, List.length_cons, List.length_nil, Nat.reduceAdd, Nat.reduceSub, List.replicate, List.cons_append, List.nil_append]
  refine TC.seq ?_
  refine TC.region ?_
  refine TL.vE (Val.assign 1 rfl rfl) ?_
  refine TL.vE (Val.assign 1 rfl rfl) ?_
  refine TL.nil ?_
  show TC _ _ _ _ _ _
  refine TC.seq ?_
  refine TC.region ?_
  refine TL.opK rfl fun K hK => ?_
  refine OpT.build0 (sz := 1) rfl rfl rfl rfl ?_
  simp only [nrm, Nat.reduceBEq, Nat.reduceBNe, reduceIte]
  refine hK _ ?_
  clear hK K
  refine TL.vE (Val.assign 1 rfl rfl) ?_
  refine TL.nil ?_
  show TC _ _ _ _ _ _
  refine TC.seq ?_
  refine TC.seq ?_
  refine TC.region ?_
  refine TL.vE (Val.move 1 rfl rfl) ?_
  refine TL.vE (by first | exact Val.len rfl rfl rfl rfl | exact Val.lenS rfl rfl rfl) ?_
  refine TL.vE (Val.gtr rfl rfl rfl) ?_
  refine TL.nil ?_
  show TC _ _ _ _ _ _
  refine TC.cond rfl (fun hb => ?_) (fun hb => ?_)
  · have hk10 := hb
    refine TC.seq ?_
    refine TC.region ?_
    refine TL.vE (Val.move 1 rfl rfl) ?_
    refine TL.vE (Val.assign 1 rfl rfl) ?_
    refine TL.vE (Val.assign 1 rfl rfl) ?_
    refine TL.nil ?_
    show TC _ _ _ _ _ _
    refine TC.ret ?_
    exact ⟨.inr rfl, [_, _], [_, _], _, rfl, by decide, rfl, by simp [refV, refC, valC], rfl, (by have h0 := (parts_long (s := s) (by simp at hb; omega)); simp only [RParts, h0]; rfl)⟩
  have hk10 := hb
  refine TC.skip ?_
  show TC _ _ _ _ _ _
  refine TC.seq ?_
  have hs6 : s.size ≤ 600 := by simp at hb; omega
  refine TC.region ?_
  refine TL.vE (Val.assign 1 rfl rfl) ?_
  refine TL.nil ?_
  show TC _ _ _ _ _ _
  refine TC.seq ?_
  refine TC.seq ?_
  refine TC.region ?_
  refine TL.vE (Val.assign 1 rfl rfl) ?_
  refine TL.nil ?_
  show TC _ _ _ _ _ _
  refine TC.block ?_
  refine TC.loop (fun μ st => ∃ (i b : Nat) (ws : List ByteArray), (i ≤ s.size + 1 ∧ wordsTo s i = (ws, b) ∧ okTo s i = true) ∧ μ = s.size + 1 - i ∧ Can st ⟨[S s, .one .dead, .one .dead, .one .dead, .one (.c (.ref ⟨4, [], 0⟩)), I b, I i, .one .dead, .one .dead, .one .dead, .one .dead, .one .dead, .one .dead, .one .dead, .one .dead, .one .dead, .one .dead, .one .dead, .one .dead, .one .dead, .one .dead, .one .dead, .one .dead, .one .dead, .one .dead, .one .dead, .one .dead, .one .dead, .one .dead, .one .dead, .one .dead, .one .dead, .one .dead, .one .dead, .one .dead, .one .dead, .one .dead, .one .dead, .one .dead, .one .dead, .one .dead, .one .dead, .one .dead, .one .dead, .one .dead, .one .dead, .one .dead, .one .dead, .one .dead, .one .dead, .one .dead, .one .dead, .one .dead, .one .dead, .one .dead, .one .dead, .one .dead, .one .dead, .one .dead, .one .dead, .one .dead, .one .dead], [(4, ⟨false, [.own (.sl 1 (ws.map fun w => .v (.string w)))]⟩)]⟩) (s.size + 1) ?_ fun μ st hI => ?_
  · refine ⟨0, 0, [], ⟨by omega, rfl, rfl⟩, by simp, ?_⟩
    exact Can.name 7 4 (by simp only [St.name, nameS, nameV, nameC, nameR, List.map_cons, List.map_nil, Nat.reduceEqDiff, if_true, if_false, ne_eq, not_true, not_false, and_true, and_false, true_and, false_and, reduceIte]; rfl) (Can.tos (.cons rfl (by simp [elD, cellD]) .nil))
  · obtain ⟨i, b, ws, hyp, rfl, hcan⟩ := hI
    refine TC.can hcan ?_
    clear hcan
    refine TC.seq ?_
    refine TC.seq ?_
    refine TC.region ?_
    refine TL.vE (Val.move 1 rfl rfl) ?_
    refine TL.vE (Val.move 1 rfl rfl) ?_
    refine TL.vE (by first | exact Val.len rfl rfl rfl rfl | exact Val.lenS rfl rfl rfl) ?_
    refine TL.vE (Val.leq rfl rfl rfl) ?_
    refine TL.nil ?_
    show TC _ _ _ _ _ _
    refine TC.cond rfl (fun hb => ?_) (fun hb => ?_)
    · have hk15 := hb
      refine TC.skip ?_
      show TC _ _ _ _ _ _
      refine TC.seq ?_
      refine TC.block ?_
      refine TC.seq ?_
      refine TC.seq ?_
      have hi : i ≤ s.size := by simp at hb; omega
      obtain ⟨c, hc⟩ := byte_at s i
      have hwl := words_le hyp.2.1
      refine TC.region ?_
      refine TL.vE (Val.move 1 rfl rfl) ?_
      refine TL.vE (Val.move 1 rfl rfl) ?_
      refine TL.vE (by first | exact Val.len rfl rfl rfl rfl | exact Val.lenS rfl rfl rfl) ?_
      refine TL.vE (Val.lss rfl rfl rfl) ?_
      refine TL.vE (Val.move 1 rfl rfl) ?_
      refine TL.splitG 4 rfl (fun hg4 => ?_) (fun hg4 => ?_)
      · refine TL.gE rfl hg4 (Val.move 1 rfl rfl) ?_
        refine TL.gE rfl hg4 (Val.move 1 rfl rfl) ?_
        refine TL.gE rfl hg4 (by exact Val.indexS rfl rfl rfl rfl (by omega) (hc (by have h4 := hg4; simp only [decide_eq_true_eq] at h4; omega)).1) ?_
        refine TL.gE rfl hg4 (Val.lss rfl rfl rfl) ?_
        refine TL.gE rfl hg4 (Val.move 1 rfl rfl) ?_
        refine TL.splitG 9 rfl (fun hg9 => ?_) (fun hg9 => ?_)
        · iterate 4 (refine TL.skip (nope_b rfl rfl hg9) (by simp only [nput]; rfl) ?_)
          refine TL.gE rfl hg4 (Val.pickT rfl rfl hg9 rfl) ?_
          refine TL.vE (Val.pickT rfl rfl hg4 rfl) ?_
          refine TL.nil ?_
          show TC _ _ _ _ _ _
          refine TC.cond rfl (fun hb => ?_) (fun hb => absurd hb (by simp))
          refine TC.seq ?_
          refine TC.region ?_
          refine TL.opK rfl fun K hK => ?_
          refine OpT.build0 (sz := 1) rfl rfl rfl rfl ?_
          simp only [nrm, Nat.reduceBEq, Nat.reduceBNe, reduceIte]
          refine hK _ ?_
          clear hK K
          refine TL.vE (Val.assign 1 rfl rfl) ?_
          refine TL.vE (Val.assign 1 rfl rfl) ?_
          refine TL.nil ?_
          show TC _ _ _ _ _ _
          refine TC.ret ?_
          exact ⟨.inr rfl, [_, _], [_, _], _, rfl, by decide, rfl, by simp [refV, refC, valC], rfl, (by have h0 := (parts_bad hc (by have h4 := hg4; simp only [decide_eq_true_eq] at h4; omega) (by simp only [nso, List.length_map, inR] at *; omega)); simp only [RParts, h0]; rfl)⟩
        · refine TL.gE rfl hg9 (Val.move 1 rfl rfl) ?_
          refine TL.gE rfl hg9 (Val.move 1 rfl rfl) ?_
          refine TL.gE rfl hg9 (by exact Val.indexS rfl rfl rfl rfl (by omega) (hc (by have h4 := hg4; simp only [decide_eq_true_eq] at h4; omega)).1) ?_
          refine TL.gE rfl hg9 (Val.gtr rfl rfl rfl) ?_
          refine TL.gE rfl hg4 (Val.pickF rfl rfl hg9 rfl) ?_
          refine TL.vE (Val.pickT rfl rfl hg4 rfl) ?_
          refine TL.nil ?_
          show TC _ _ _ _ _ _
          refine TC.cond rfl (fun hb => ?_) (fun hb => ?_)
          · have hk33 := hb
            refine TC.seq ?_
            refine TC.region ?_
            refine TL.opK rfl fun K hK => ?_
            refine OpT.build0 (sz := 1) rfl rfl rfl rfl ?_
            simp only [nrm, Nat.reduceBEq, Nat.reduceBNe, reduceIte]
            refine hK _ ?_
            clear hK K
            refine TL.vE (Val.assign 1 rfl rfl) ?_
            refine TL.vE (Val.assign 1 rfl rfl) ?_
            refine TL.nil ?_
            show TC _ _ _ _ _ _
            refine TC.ret ?_
            exact ⟨.inr rfl, [_, _], [_, _], _, rfl, by decide, rfl, by simp [refV, refC, valC], rfl, (by have h0 := (parts_bad hc (by have h4 := hg4; simp only [decide_eq_true_eq] at h4; omega) (by simp only [nso, List.length_map, inR] at *; omega)); simp only [RParts, h0]; rfl)⟩
          have hk33 := hb
          refine TC.skip ?_
          show TC _ _ _ _ _ _
          refine TC.seq ?_
          refine TC.seq ?_
          refine TC.region ?_
          refine TL.vE (Val.move 1 rfl rfl) ?_
          refine TL.vE (Val.move 1 rfl rfl) ?_
          refine TL.vE (by first | exact Val.len rfl rfl rfl rfl | exact Val.lenS rfl rfl rfl) ?_
          refine TL.vE (Val.lss rfl rfl rfl) ?_
          refine TL.vE (Val.move 1 rfl rfl) ?_
          refine TL.splitG 4 rfl (fun hg4 => ?_) (fun hg4 => ?_)
          · refine TL.gE rfl hg4 (Val.move 1 rfl rfl) ?_
            refine TL.gE rfl hg4 (Val.move 1 rfl rfl) ?_
            refine TL.gE rfl hg4 (by exact Val.indexS rfl rfl rfl rfl (by omega) (hc (by have h4 := hg4; simp only [decide_eq_true_eq] at h4; omega)).1) ?_
            refine TL.gE rfl hg4 (Val.neq rfl rfl rfl) ?_
            refine TL.vE (Val.pickT rfl rfl hg4 rfl) ?_
            refine TL.nil ?_
            show TC _ _ _ _ _ _
            refine TC.cond rfl (fun hb => ?_) (fun hb => ?_)
            · have hk44 := hb
              refine TC.exit ?_
              show TC _ _ _ _ _ _
              refine TC.region ?_
              refine TL.vE (Val.move 1 rfl rfl) ?_
              refine TL.vE (Val.addO rfl rfl rfl) ?_
              refine TL.vE (Val.assign 1 rfl rfl) ?_
              refine TL.nil ?_
              first
              | (exfalso; first | (simp at hg2; done) | (simp only [nso, List.length_map, inR] at *; omega))
              | (first | refine Seq.normal ⟨_, ?_, i + 1, b, ws, ?_, rfl, ?_⟩ | refine Seq.normal (Q := fun _ _ => True) ⟨_, ?_, i + 1, b, ws, ?_, rfl, ?_⟩
                 · omega
                 · exact ⟨by omega, words_stay hyp.2.1 (by rw [blank_is hc]; simp only [nso, List.length_map, inR] at *; omega), (okTo_step hyp.2.2 hc (by intro hlt; simp only [nso, List.length_map, inR] at *; omega))⟩
                 · exact Can.tos (.cons rfl rfl .nil))
              | (first | refine Seq.normal ⟨_, ?_, i + 1, i + 1, ws, ?_, rfl, ?_⟩ | refine Seq.normal (Q := fun _ _ => True) ⟨_, ?_, i + 1, i + 1, ws, ?_, rfl, ?_⟩
                 · omega
                 · exact ⟨by omega, words_skip hyp.2.1 (by rw [blank_is hc]; simp only [nso, List.length_map, inR] at *; omega) (by simp only [nso, List.length_map, inR] at *; omega), (okTo_step hyp.2.2 hc (by intro hlt; simp only [nso, List.length_map, inR] at *; omega))⟩
                 · exact Can.tos (.cons rfl rfl .nil))
              | (first | refine Seq.normal ⟨_, ?_, i + 1, i + 1, ws ++ [s.extract b i], ?_, rfl, ?_⟩ | refine Seq.normal (Q := fun _ _ => True) ⟨_, ?_, i + 1, i + 1, ws ++ [s.extract b i], ?_, rfl, ?_⟩
                 · omega
                 · exact ⟨by omega, words_add hyp.2.1 (by rw [blank_is hc]; simp only [nso, List.length_map, inR] at *; omega) (by simp only [nso, List.length_map, inR] at *; omega), (okTo_step hyp.2.2 hc (by intro hlt; simp only [nso, List.length_map, inR] at *; omega))⟩
                 · exact Can.name 54 4 (by simp only [St.name, nameS, nameV, nameC, nameR, List.map_cons, List.map_nil, Nat.reduceEqDiff, if_true, if_false, ne_eq, not_true, not_false, and_true, and_false, true_and, false_and, reduceIte]; rfl) (Can.tos (.cons rfl (by simp [elD, cellD]) .nil)))
            have hk44 := hb
            refine TC.skip ?_
            show TC _ _ _ _ _ _
            refine TC.seq ?_
            refine TC.seq ?_
            refine TC.region ?_
            refine TL.vE (Val.move 1 rfl rfl) ?_
            refine TL.vE (Val.move 1 rfl rfl) ?_
            refine TL.vE (Val.lss rfl rfl rfl) ?_
            refine TL.nil ?_
            show TC _ _ _ _ _ _
            refine TC.cond rfl (fun hb => ?_) (fun hb => ?_)
            · have hk47 := hb
              refine TC.region ?_
              refine TL.vE (Val.move 1 rfl rfl) ?_
              refine TL.vE (Val.move 1 rfl rfl) ?_
              refine TL.vE (Val.move 1 rfl rfl) ?_
              refine TL.vE (Val.move 1 rfl rfl) ?_
              refine TL.vE (Val.sliceS rfl rfl rfl rfl rfl (by omega) (by omega) (by simp; omega)) ?_
              refine TL.opK rfl fun K hK => ?_
              refine OpT.buildP rfl rfl (xs := [(Go.Operand.tmp 52)]) rfl rfl rfl rfl (sz := 1) rfl rfl rfl (by decide) (by decide) ?_
              simp only [nrm, Nat.reduceBEq, Nat.reduceBNe, reduceIte]
              refine hK _ ?_
              clear hK K
              refine TL.opK rfl fun K hK => ?_
              refine OpT.appendE rfl rfl rfl (sz := 1) rfl rfl rfl (by simp [isPlain, D.row, elD, cellD]) rfl rfl rfl rfl rfl rfl rfl (by simp; try omega) ?_
              simp only [nrm, Nat.reduceBEq, Nat.reduceBNe, reduceIte]
              refine hK _ ?_
              clear hK K
              refine TL.vE (Val.assign 1 rfl rfl) ?_
              refine TL.nil ?_
              show TC _ _ _ _ _ _
              refine TC.region ?_
              refine TL.vE (Val.move 1 rfl rfl) ?_
              refine TL.vE (Val.addO rfl rfl rfl) ?_
              refine TL.vE (Val.assign 1 rfl rfl) ?_
              refine TL.nil ?_
              show TC _ _ _ _ _ _
              refine TC.region ?_
              refine TL.vE (Val.move 1 rfl rfl) ?_
              refine TL.vE (Val.addO rfl rfl rfl) ?_
              refine TL.vE (Val.assign 1 rfl rfl) ?_
              refine TL.nil ?_
              first
              | (exfalso; first | (simp at hg2; done) | (simp only [nso, List.length_map, inR] at *; omega))
              | (first | refine Seq.normal ⟨_, ?_, i + 1, b, ws, ?_, rfl, ?_⟩ | refine Seq.normal (Q := fun _ _ => True) ⟨_, ?_, i + 1, b, ws, ?_, rfl, ?_⟩
                 · omega
                 · exact ⟨by omega, words_stay hyp.2.1 (by rw [blank_is hc]; simp only [nso, List.length_map, inR] at *; omega), (okTo_step hyp.2.2 hc (by intro hlt; simp only [nso, List.length_map, inR] at *; omega))⟩
                 · exact Can.tos (.cons rfl rfl .nil))
              | (first | refine Seq.normal ⟨_, ?_, i + 1, i + 1, ws, ?_, rfl, ?_⟩ | refine Seq.normal (Q := fun _ _ => True) ⟨_, ?_, i + 1, i + 1, ws, ?_, rfl, ?_⟩
                 · omega
                 · exact ⟨by omega, words_skip hyp.2.1 (by rw [blank_is hc]; simp only [nso, List.length_map, inR] at *; omega) (by simp only [nso, List.length_map, inR] at *; omega), (okTo_step hyp.2.2 hc (by intro hlt; simp only [nso, List.length_map, inR] at *; omega))⟩
                 · exact Can.tos (.cons rfl rfl .nil))
              | (first | refine Seq.normal ⟨_, ?_, i + 1, i + 1, ws ++ [s.extract b i], ?_, rfl, ?_⟩ | refine Seq.normal (Q := fun _ _ => True) ⟨_, ?_, i + 1, i + 1, ws ++ [s.extract b i], ?_, rfl, ?_⟩
                 · omega
                 · exact ⟨by omega, words_add hyp.2.1 (by rw [blank_is hc]; simp only [nso, List.length_map, inR] at *; omega) (by simp only [nso, List.length_map, inR] at *; omega), (okTo_step hyp.2.2 hc (by intro hlt; simp only [nso, List.length_map, inR] at *; omega))⟩
                 · exact Can.name 54 4 (by simp only [St.name, nameS, nameV, nameC, nameR, List.map_cons, List.map_nil, Nat.reduceEqDiff, if_true, if_false, ne_eq, not_true, not_false, and_true, and_false, true_and, false_and, reduceIte]; rfl) (Can.tos (.cons rfl (by simp [elD, cellD]) .nil)))
            have hk47 := hb
            refine TC.skip ?_
            show TC _ _ _ _ _ _
            refine TC.region ?_
            refine TL.vE (Val.move 1 rfl rfl) ?_
            refine TL.vE (Val.addO rfl rfl rfl) ?_
            refine TL.vE (Val.assign 1 rfl rfl) ?_
            refine TL.nil ?_
            show TC _ _ _ _ _ _
            refine TC.region ?_
            refine TL.vE (Val.move 1 rfl rfl) ?_
            refine TL.vE (Val.addO rfl rfl rfl) ?_
            refine TL.vE (Val.assign 1 rfl rfl) ?_
            refine TL.nil ?_
            first
            | (exfalso; first | (simp at hg2; done) | (simp only [nso, List.length_map, inR] at *; omega))
            | (first | refine Seq.normal ⟨_, ?_, i + 1, b, ws, ?_, rfl, ?_⟩ | refine Seq.normal (Q := fun _ _ => True) ⟨_, ?_, i + 1, b, ws, ?_, rfl, ?_⟩
               · omega
               · exact ⟨by omega, words_stay hyp.2.1 (by rw [blank_is hc]; simp only [nso, List.length_map, inR] at *; omega), (okTo_step hyp.2.2 hc (by intro hlt; simp only [nso, List.length_map, inR] at *; omega))⟩
               · exact Can.tos (.cons rfl rfl .nil))
            | (first | refine Seq.normal ⟨_, ?_, i + 1, i + 1, ws, ?_, rfl, ?_⟩ | refine Seq.normal (Q := fun _ _ => True) ⟨_, ?_, i + 1, i + 1, ws, ?_, rfl, ?_⟩
               · omega
               · exact ⟨by omega, words_skip hyp.2.1 (by rw [blank_is hc]; simp only [nso, List.length_map, inR] at *; omega) (by simp only [nso, List.length_map, inR] at *; omega), (okTo_step hyp.2.2 hc (by intro hlt; simp only [nso, List.length_map, inR] at *; omega))⟩
               · exact Can.tos (.cons rfl rfl .nil))
            | (first | refine Seq.normal ⟨_, ?_, i + 1, i + 1, ws ++ [s.extract b i], ?_, rfl, ?_⟩ | refine Seq.normal (Q := fun _ _ => True) ⟨_, ?_, i + 1, i + 1, ws ++ [s.extract b i], ?_, rfl, ?_⟩
               · omega
               · exact ⟨by omega, words_add hyp.2.1 (by rw [blank_is hc]; simp only [nso, List.length_map, inR] at *; omega) (by simp only [nso, List.length_map, inR] at *; omega), (okTo_step hyp.2.2 hc (by intro hlt; simp only [nso, List.length_map, inR] at *; omega))⟩
               · exact Can.name 54 4 (by simp only [St.name, nameS, nameV, nameC, nameR, List.map_cons, List.map_nil, Nat.reduceEqDiff, if_true, if_false, ne_eq, not_true, not_false, and_true, and_false, true_and, false_and, reduceIte]; rfl) (Can.tos (.cons rfl (by simp [elD, cellD]) .nil)))
          · iterate 4 (refine TL.skip (nope_b rfl rfl hg4) (by simp only [nput]; rfl) ?_)
            refine TL.vE (Val.pickF rfl rfl hg4 rfl) ?_
            refine TL.nil ?_
            show TC _ _ _ _ _ _
            refine TC.cond rfl (fun hb => absurd hb (by simp)) (fun hb => ?_)
            refine TC.skip ?_
            show TC _ _ _ _ _ _
            refine TC.seq ?_
            refine TC.seq ?_
            refine TC.region ?_
            refine TL.vE (Val.move 1 rfl rfl) ?_
            refine TL.vE (Val.move 1 rfl rfl) ?_
            refine TL.vE (Val.lss rfl rfl rfl) ?_
            refine TL.nil ?_
            show TC _ _ _ _ _ _
            refine TC.cond rfl (fun hb => ?_) (fun hb => ?_)
            · have hk47 := hb
              refine TC.region ?_
              refine TL.vE (Val.move 1 rfl rfl) ?_
              refine TL.vE (Val.move 1 rfl rfl) ?_
              refine TL.vE (Val.move 1 rfl rfl) ?_
              refine TL.vE (Val.move 1 rfl rfl) ?_
              refine TL.vE (Val.sliceS rfl rfl rfl rfl rfl (by omega) (by omega) (by simp; omega)) ?_
              refine TL.opK rfl fun K hK => ?_
              refine OpT.buildP rfl rfl (xs := [(Go.Operand.tmp 52)]) rfl rfl rfl rfl (sz := 1) rfl rfl rfl (by decide) (by decide) ?_
              simp only [nrm, Nat.reduceBEq, Nat.reduceBNe, reduceIte]
              refine hK _ ?_
              clear hK K
              refine TL.opK rfl fun K hK => ?_
              refine OpT.appendE rfl rfl rfl (sz := 1) rfl rfl rfl (by simp [isPlain, D.row, elD, cellD]) rfl rfl rfl rfl rfl rfl rfl (by simp; try omega) ?_
              simp only [nrm, Nat.reduceBEq, Nat.reduceBNe, reduceIte]
              refine hK _ ?_
              clear hK K
              refine TL.vE (Val.assign 1 rfl rfl) ?_
              refine TL.nil ?_
              show TC _ _ _ _ _ _
              refine TC.region ?_
              refine TL.vE (Val.move 1 rfl rfl) ?_
              refine TL.vE (Val.addO rfl rfl rfl) ?_
              refine TL.vE (Val.assign 1 rfl rfl) ?_
              refine TL.nil ?_
              show TC _ _ _ _ _ _
              refine TC.region ?_
              refine TL.vE (Val.move 1 rfl rfl) ?_
              refine TL.vE (Val.addO rfl rfl rfl) ?_
              refine TL.vE (Val.assign 1 rfl rfl) ?_
              refine TL.nil ?_
              first
              | (exfalso; first | (simp at hg2; done) | (simp only [nso, List.length_map, inR] at *; omega))
              | (first | refine Seq.normal ⟨_, ?_, i + 1, b, ws, ?_, rfl, ?_⟩ | refine Seq.normal (Q := fun _ _ => True) ⟨_, ?_, i + 1, b, ws, ?_, rfl, ?_⟩
                 · omega
                 · exact ⟨by omega, words_stay hyp.2.1 (by rw [blank_is hc]; simp only [nso, List.length_map, inR] at *; omega), (okTo_step hyp.2.2 hc (by intro hlt; simp only [nso, List.length_map, inR] at *; omega))⟩
                 · exact Can.tos (.cons rfl rfl .nil))
              | (first | refine Seq.normal ⟨_, ?_, i + 1, i + 1, ws, ?_, rfl, ?_⟩ | refine Seq.normal (Q := fun _ _ => True) ⟨_, ?_, i + 1, i + 1, ws, ?_, rfl, ?_⟩
                 · omega
                 · exact ⟨by omega, words_skip hyp.2.1 (by rw [blank_is hc]; simp only [nso, List.length_map, inR] at *; omega) (by simp only [nso, List.length_map, inR] at *; omega), (okTo_step hyp.2.2 hc (by intro hlt; simp only [nso, List.length_map, inR] at *; omega))⟩
                 · exact Can.tos (.cons rfl rfl .nil))
              | (first | refine Seq.normal ⟨_, ?_, i + 1, i + 1, ws ++ [s.extract b i], ?_, rfl, ?_⟩ | refine Seq.normal (Q := fun _ _ => True) ⟨_, ?_, i + 1, i + 1, ws ++ [s.extract b i], ?_, rfl, ?_⟩
                 · omega
                 · exact ⟨by omega, words_add hyp.2.1 (by rw [blank_is hc]; simp only [nso, List.length_map, inR] at *; omega) (by simp only [nso, List.length_map, inR] at *; omega), (okTo_step hyp.2.2 hc (by intro hlt; simp only [nso, List.length_map, inR] at *; omega))⟩
                 · exact Can.name 54 4 (by simp only [St.name, nameS, nameV, nameC, nameR, List.map_cons, List.map_nil, Nat.reduceEqDiff, if_true, if_false, ne_eq, not_true, not_false, and_true, and_false, true_and, false_and, reduceIte]; rfl) (Can.tos (.cons rfl (by simp [elD, cellD]) .nil)))
            have hk47 := hb
            refine TC.skip ?_
            show TC _ _ _ _ _ _
            refine TC.region ?_
            refine TL.vE (Val.move 1 rfl rfl) ?_
            refine TL.vE (Val.addO rfl rfl rfl) ?_
            refine TL.vE (Val.assign 1 rfl rfl) ?_
            refine TL.nil ?_
            show TC _ _ _ _ _ _
            refine TC.region ?_
            refine TL.vE (Val.move 1 rfl rfl) ?_
            refine TL.vE (Val.addO rfl rfl rfl) ?_
            refine TL.vE (Val.assign 1 rfl rfl) ?_
            refine TL.nil ?_
            first
            | (exfalso; first | (simp at hg2; done) | (simp only [nso, List.length_map, inR] at *; omega))
            | (first | refine Seq.normal ⟨_, ?_, i + 1, b, ws, ?_, rfl, ?_⟩ | refine Seq.normal (Q := fun _ _ => True) ⟨_, ?_, i + 1, b, ws, ?_, rfl, ?_⟩
               · omega
               · exact ⟨by omega, words_stay hyp.2.1 (by rw [blank_is hc]; simp only [nso, List.length_map, inR] at *; omega), (okTo_step hyp.2.2 hc (by intro hlt; simp only [nso, List.length_map, inR] at *; omega))⟩
               · exact Can.tos (.cons rfl rfl .nil))
            | (first | refine Seq.normal ⟨_, ?_, i + 1, i + 1, ws, ?_, rfl, ?_⟩ | refine Seq.normal (Q := fun _ _ => True) ⟨_, ?_, i + 1, i + 1, ws, ?_, rfl, ?_⟩
               · omega
               · exact ⟨by omega, words_skip hyp.2.1 (by rw [blank_is hc]; simp only [nso, List.length_map, inR] at *; omega) (by simp only [nso, List.length_map, inR] at *; omega), (okTo_step hyp.2.2 hc (by intro hlt; simp only [nso, List.length_map, inR] at *; omega))⟩
               · exact Can.tos (.cons rfl rfl .nil))
            | (first | refine Seq.normal ⟨_, ?_, i + 1, i + 1, ws ++ [s.extract b i], ?_, rfl, ?_⟩ | refine Seq.normal (Q := fun _ _ => True) ⟨_, ?_, i + 1, i + 1, ws ++ [s.extract b i], ?_, rfl, ?_⟩
               · omega
               · exact ⟨by omega, words_add hyp.2.1 (by rw [blank_is hc]; simp only [nso, List.length_map, inR] at *; omega) (by simp only [nso, List.length_map, inR] at *; omega), (okTo_step hyp.2.2 hc (by intro hlt; simp only [nso, List.length_map, inR] at *; omega))⟩
               · exact Can.name 54 4 (by simp only [St.name, nameS, nameV, nameC, nameR, List.map_cons, List.map_nil, Nat.reduceEqDiff, if_true, if_false, ne_eq, not_true, not_false, and_true, and_false, true_and, false_and, reduceIte]; rfl) (Can.tos (.cons rfl (by simp [elD, cellD]) .nil)))
      · iterate 5 (refine TL.skip (nope_b rfl rfl hg4) (by simp only [nput]; rfl) ?_)
        iterate 4 (refine TL.skip (nope_u rfl rfl) (by simp only [nput]; rfl) ?_)
        refine TL.skip (nope_b rfl rfl hg4) (by simp only [nput]; rfl) ?_
        refine TL.vE (Val.pickF rfl rfl hg4 rfl) ?_
        refine TL.nil ?_
        show TC _ _ _ _ _ _
        refine TC.cond rfl (fun hb => absurd hb (by simp)) (fun hb => ?_)
        refine TC.skip ?_
        show TC _ _ _ _ _ _
        refine TC.seq ?_
        refine TC.seq ?_
        refine TC.region ?_
        refine TL.vE (Val.move 1 rfl rfl) ?_
        refine TL.vE (Val.move 1 rfl rfl) ?_
        refine TL.vE (by first | exact Val.len rfl rfl rfl rfl | exact Val.lenS rfl rfl rfl) ?_
        refine TL.vE (Val.lss rfl rfl rfl) ?_
        refine TL.vE (Val.move 1 rfl rfl) ?_
        refine TL.splitG 4 rfl (fun hg4 => ?_) (fun hg4 => ?_)
        · refine TL.gE rfl hg4 (Val.move 1 rfl rfl) ?_
          refine TL.gE rfl hg4 (Val.move 1 rfl rfl) ?_
          refine TL.gE rfl hg4 (by exact Val.indexS rfl rfl rfl rfl (by omega) (hc (by have h4 := hg4; simp only [decide_eq_true_eq] at h4; omega)).1) ?_
          refine TL.gE rfl hg4 (Val.neq rfl rfl rfl) ?_
          refine TL.vE (Val.pickT rfl rfl hg4 rfl) ?_
          refine TL.nil ?_
          show TC _ _ _ _ _ _
          refine TC.cond rfl (fun hb => ?_) (fun hb => ?_)
          · have hk44 := hb
            refine TC.exit ?_
            show TC _ _ _ _ _ _
            refine TC.region ?_
            refine TL.vE (Val.move 1 rfl rfl) ?_
            refine TL.vE (Val.addO rfl rfl rfl) ?_
            refine TL.vE (Val.assign 1 rfl rfl) ?_
            refine TL.nil ?_
            first
            | (exfalso; first | (simp at hg2; done) | (simp only [nso, List.length_map, inR] at *; omega))
            | (first | refine Seq.normal ⟨_, ?_, i + 1, b, ws, ?_, rfl, ?_⟩ | refine Seq.normal (Q := fun _ _ => True) ⟨_, ?_, i + 1, b, ws, ?_, rfl, ?_⟩
               · omega
               · exact ⟨by omega, words_stay hyp.2.1 (by rw [blank_is hc]; simp only [nso, List.length_map, inR] at *; omega), (okTo_step hyp.2.2 hc (by intro hlt; simp only [nso, List.length_map, inR] at *; omega))⟩
               · exact Can.tos (.cons rfl rfl .nil))
            | (first | refine Seq.normal ⟨_, ?_, i + 1, i + 1, ws, ?_, rfl, ?_⟩ | refine Seq.normal (Q := fun _ _ => True) ⟨_, ?_, i + 1, i + 1, ws, ?_, rfl, ?_⟩
               · omega
               · exact ⟨by omega, words_skip hyp.2.1 (by rw [blank_is hc]; simp only [nso, List.length_map, inR] at *; omega) (by simp only [nso, List.length_map, inR] at *; omega), (okTo_step hyp.2.2 hc (by intro hlt; simp only [nso, List.length_map, inR] at *; omega))⟩
               · exact Can.tos (.cons rfl rfl .nil))
            | (first | refine Seq.normal ⟨_, ?_, i + 1, i + 1, ws ++ [s.extract b i], ?_, rfl, ?_⟩ | refine Seq.normal (Q := fun _ _ => True) ⟨_, ?_, i + 1, i + 1, ws ++ [s.extract b i], ?_, rfl, ?_⟩
               · omega
               · exact ⟨by omega, words_add hyp.2.1 (by rw [blank_is hc]; simp only [nso, List.length_map, inR] at *; omega) (by simp only [nso, List.length_map, inR] at *; omega), (okTo_step hyp.2.2 hc (by intro hlt; simp only [nso, List.length_map, inR] at *; omega))⟩
               · exact Can.name 54 4 (by simp only [St.name, nameS, nameV, nameC, nameR, List.map_cons, List.map_nil, Nat.reduceEqDiff, if_true, if_false, ne_eq, not_true, not_false, and_true, and_false, true_and, false_and, reduceIte]; rfl) (Can.tos (.cons rfl (by simp [elD, cellD]) .nil)))
          have hk44 := hb
          refine TC.skip ?_
          show TC _ _ _ _ _ _
          refine TC.seq ?_
          refine TC.seq ?_
          refine TC.region ?_
          refine TL.vE (Val.move 1 rfl rfl) ?_
          refine TL.vE (Val.move 1 rfl rfl) ?_
          refine TL.vE (Val.lss rfl rfl rfl) ?_
          refine TL.nil ?_
          show TC _ _ _ _ _ _
          refine TC.cond rfl (fun hb => ?_) (fun hb => ?_)
          · have hk47 := hb
            refine TC.region ?_
            refine TL.vE (Val.move 1 rfl rfl) ?_
            refine TL.vE (Val.move 1 rfl rfl) ?_
            refine TL.vE (Val.move 1 rfl rfl) ?_
            refine TL.vE (Val.move 1 rfl rfl) ?_
            refine TL.vE (Val.sliceS rfl rfl rfl rfl rfl (by omega) (by omega) (by simp; omega)) ?_
            refine TL.opK rfl fun K hK => ?_
            refine OpT.buildP rfl rfl (xs := [(Go.Operand.tmp 52)]) rfl rfl rfl rfl (sz := 1) rfl rfl rfl (by decide) (by decide) ?_
            simp only [nrm, Nat.reduceBEq, Nat.reduceBNe, reduceIte]
            refine hK _ ?_
            clear hK K
            refine TL.opK rfl fun K hK => ?_
            refine OpT.appendE rfl rfl rfl (sz := 1) rfl rfl rfl (by simp [isPlain, D.row, elD, cellD]) rfl rfl rfl rfl rfl rfl rfl (by simp; try omega) ?_
            simp only [nrm, Nat.reduceBEq, Nat.reduceBNe, reduceIte]
            refine hK _ ?_
            clear hK K
            refine TL.vE (Val.assign 1 rfl rfl) ?_
            refine TL.nil ?_
            show TC _ _ _ _ _ _
            refine TC.region ?_
            refine TL.vE (Val.move 1 rfl rfl) ?_
            refine TL.vE (Val.addO rfl rfl rfl) ?_
            refine TL.vE (Val.assign 1 rfl rfl) ?_
            refine TL.nil ?_
            show TC _ _ _ _ _ _
            refine TC.region ?_
            refine TL.vE (Val.move 1 rfl rfl) ?_
            refine TL.vE (Val.addO rfl rfl rfl) ?_
            refine TL.vE (Val.assign 1 rfl rfl) ?_
            refine TL.nil ?_
            first
            | (exfalso; first | (simp at hg2; done) | (simp only [nso, List.length_map, inR] at *; omega))
            | (first | refine Seq.normal ⟨_, ?_, i + 1, b, ws, ?_, rfl, ?_⟩ | refine Seq.normal (Q := fun _ _ => True) ⟨_, ?_, i + 1, b, ws, ?_, rfl, ?_⟩
               · omega
               · exact ⟨by omega, words_stay hyp.2.1 (by rw [blank_is hc]; simp only [nso, List.length_map, inR] at *; omega), (okTo_step hyp.2.2 hc (by intro hlt; simp only [nso, List.length_map, inR] at *; omega))⟩
               · exact Can.tos (.cons rfl rfl .nil))
            | (first | refine Seq.normal ⟨_, ?_, i + 1, i + 1, ws, ?_, rfl, ?_⟩ | refine Seq.normal (Q := fun _ _ => True) ⟨_, ?_, i + 1, i + 1, ws, ?_, rfl, ?_⟩
               · omega
               · exact ⟨by omega, words_skip hyp.2.1 (by rw [blank_is hc]; simp only [nso, List.length_map, inR] at *; omega) (by simp only [nso, List.length_map, inR] at *; omega), (okTo_step hyp.2.2 hc (by intro hlt; simp only [nso, List.length_map, inR] at *; omega))⟩
               · exact Can.tos (.cons rfl rfl .nil))
            | (first | refine Seq.normal ⟨_, ?_, i + 1, i + 1, ws ++ [s.extract b i], ?_, rfl, ?_⟩ | refine Seq.normal (Q := fun _ _ => True) ⟨_, ?_, i + 1, i + 1, ws ++ [s.extract b i], ?_, rfl, ?_⟩
               · omega
               · exact ⟨by omega, words_add hyp.2.1 (by rw [blank_is hc]; simp only [nso, List.length_map, inR] at *; omega) (by simp only [nso, List.length_map, inR] at *; omega), (okTo_step hyp.2.2 hc (by intro hlt; simp only [nso, List.length_map, inR] at *; omega))⟩
               · exact Can.name 54 4 (by simp only [St.name, nameS, nameV, nameC, nameR, List.map_cons, List.map_nil, Nat.reduceEqDiff, if_true, if_false, ne_eq, not_true, not_false, and_true, and_false, true_and, false_and, reduceIte]; rfl) (Can.tos (.cons rfl (by simp [elD, cellD]) .nil)))
          have hk47 := hb
          refine TC.skip ?_
          show TC _ _ _ _ _ _
          refine TC.region ?_
          refine TL.vE (Val.move 1 rfl rfl) ?_
          refine TL.vE (Val.addO rfl rfl rfl) ?_
          refine TL.vE (Val.assign 1 rfl rfl) ?_
          refine TL.nil ?_
          show TC _ _ _ _ _ _
          refine TC.region ?_
          refine TL.vE (Val.move 1 rfl rfl) ?_
          refine TL.vE (Val.addO rfl rfl rfl) ?_
          refine TL.vE (Val.assign 1 rfl rfl) ?_
          refine TL.nil ?_
          first
          | (exfalso; first | (simp at hg2; done) | (simp only [nso, List.length_map, inR] at *; omega))
          | (first | refine Seq.normal ⟨_, ?_, i + 1, b, ws, ?_, rfl, ?_⟩ | refine Seq.normal (Q := fun _ _ => True) ⟨_, ?_, i + 1, b, ws, ?_, rfl, ?_⟩
             · omega
             · exact ⟨by omega, words_stay hyp.2.1 (by rw [blank_is hc]; simp only [nso, List.length_map, inR] at *; omega), (okTo_step hyp.2.2 hc (by intro hlt; simp only [nso, List.length_map, inR] at *; omega))⟩
             · exact Can.tos (.cons rfl rfl .nil))
          | (first | refine Seq.normal ⟨_, ?_, i + 1, i + 1, ws, ?_, rfl, ?_⟩ | refine Seq.normal (Q := fun _ _ => True) ⟨_, ?_, i + 1, i + 1, ws, ?_, rfl, ?_⟩
             · omega
             · exact ⟨by omega, words_skip hyp.2.1 (by rw [blank_is hc]; simp only [nso, List.length_map, inR] at *; omega) (by simp only [nso, List.length_map, inR] at *; omega), (okTo_step hyp.2.2 hc (by intro hlt; simp only [nso, List.length_map, inR] at *; omega))⟩
             · exact Can.tos (.cons rfl rfl .nil))
          | (first | refine Seq.normal ⟨_, ?_, i + 1, i + 1, ws ++ [s.extract b i], ?_, rfl, ?_⟩ | refine Seq.normal (Q := fun _ _ => True) ⟨_, ?_, i + 1, i + 1, ws ++ [s.extract b i], ?_, rfl, ?_⟩
             · omega
             · exact ⟨by omega, words_add hyp.2.1 (by rw [blank_is hc]; simp only [nso, List.length_map, inR] at *; omega) (by simp only [nso, List.length_map, inR] at *; omega), (okTo_step hyp.2.2 hc (by intro hlt; simp only [nso, List.length_map, inR] at *; omega))⟩
             · exact Can.name 54 4 (by simp only [St.name, nameS, nameV, nameC, nameR, List.map_cons, List.map_nil, Nat.reduceEqDiff, if_true, if_false, ne_eq, not_true, not_false, and_true, and_false, true_and, false_and, reduceIte]; rfl) (Can.tos (.cons rfl (by simp [elD, cellD]) .nil)))
        · iterate 4 (refine TL.skip (nope_b rfl rfl hg4) (by simp only [nput]; rfl) ?_)
          refine TL.vE (Val.pickF rfl rfl hg4 rfl) ?_
          refine TL.nil ?_
          show TC _ _ _ _ _ _
          refine TC.cond rfl (fun hb => absurd hb (by simp)) (fun hb => ?_)
          refine TC.skip ?_
          show TC _ _ _ _ _ _
          refine TC.seq ?_
          refine TC.seq ?_
          refine TC.region ?_
          refine TL.vE (Val.move 1 rfl rfl) ?_
          refine TL.vE (Val.move 1 rfl rfl) ?_
          refine TL.vE (Val.lss rfl rfl rfl) ?_
          refine TL.nil ?_
          show TC _ _ _ _ _ _
          refine TC.cond rfl (fun hb => ?_) (fun hb => ?_)
          · have hk47 := hb
            refine TC.region ?_
            refine TL.vE (Val.move 1 rfl rfl) ?_
            refine TL.vE (Val.move 1 rfl rfl) ?_
            refine TL.vE (Val.move 1 rfl rfl) ?_
            refine TL.vE (Val.move 1 rfl rfl) ?_
            refine TL.vE (Val.sliceS rfl rfl rfl rfl rfl (by omega) (by omega) (by simp; omega)) ?_
            refine TL.opK rfl fun K hK => ?_
            refine OpT.buildP rfl rfl (xs := [(Go.Operand.tmp 52)]) rfl rfl rfl rfl (sz := 1) rfl rfl rfl (by decide) (by decide) ?_
            simp only [nrm, Nat.reduceBEq, Nat.reduceBNe, reduceIte]
            refine hK _ ?_
            clear hK K
            refine TL.opK rfl fun K hK => ?_
            refine OpT.appendE rfl rfl rfl (sz := 1) rfl rfl rfl (by simp [isPlain, D.row, elD, cellD]) rfl rfl rfl rfl rfl rfl rfl (by simp; try omega) ?_
            simp only [nrm, Nat.reduceBEq, Nat.reduceBNe, reduceIte]
            refine hK _ ?_
            clear hK K
            refine TL.vE (Val.assign 1 rfl rfl) ?_
            refine TL.nil ?_
            show TC _ _ _ _ _ _
            refine TC.region ?_
            refine TL.vE (Val.move 1 rfl rfl) ?_
            refine TL.vE (Val.addO rfl rfl rfl) ?_
            refine TL.vE (Val.assign 1 rfl rfl) ?_
            refine TL.nil ?_
            show TC _ _ _ _ _ _
            refine TC.region ?_
            refine TL.vE (Val.move 1 rfl rfl) ?_
            refine TL.vE (Val.addO rfl rfl rfl) ?_
            refine TL.vE (Val.assign 1 rfl rfl) ?_
            refine TL.nil ?_
            first
            | (exfalso; first | (simp at hg2; done) | (simp only [nso, List.length_map, inR] at *; omega))
            | (first | refine Seq.normal ⟨_, ?_, i + 1, b, ws, ?_, rfl, ?_⟩ | refine Seq.normal (Q := fun _ _ => True) ⟨_, ?_, i + 1, b, ws, ?_, rfl, ?_⟩
               · omega
               · exact ⟨by omega, words_stay hyp.2.1 (by rw [blank_is hc]; simp only [nso, List.length_map, inR] at *; omega), (okTo_step hyp.2.2 hc (by intro hlt; simp only [nso, List.length_map, inR] at *; omega))⟩
               · exact Can.tos (.cons rfl rfl .nil))
            | (first | refine Seq.normal ⟨_, ?_, i + 1, i + 1, ws, ?_, rfl, ?_⟩ | refine Seq.normal (Q := fun _ _ => True) ⟨_, ?_, i + 1, i + 1, ws, ?_, rfl, ?_⟩
               · omega
               · exact ⟨by omega, words_skip hyp.2.1 (by rw [blank_is hc]; simp only [nso, List.length_map, inR] at *; omega) (by simp only [nso, List.length_map, inR] at *; omega), (okTo_step hyp.2.2 hc (by intro hlt; simp only [nso, List.length_map, inR] at *; omega))⟩
               · exact Can.tos (.cons rfl rfl .nil))
            | (first | refine Seq.normal ⟨_, ?_, i + 1, i + 1, ws ++ [s.extract b i], ?_, rfl, ?_⟩ | refine Seq.normal (Q := fun _ _ => True) ⟨_, ?_, i + 1, i + 1, ws ++ [s.extract b i], ?_, rfl, ?_⟩
               · omega
               · exact ⟨by omega, words_add hyp.2.1 (by rw [blank_is hc]; simp only [nso, List.length_map, inR] at *; omega) (by simp only [nso, List.length_map, inR] at *; omega), (okTo_step hyp.2.2 hc (by intro hlt; simp only [nso, List.length_map, inR] at *; omega))⟩
               · exact Can.name 54 4 (by simp only [St.name, nameS, nameV, nameC, nameR, List.map_cons, List.map_nil, Nat.reduceEqDiff, if_true, if_false, ne_eq, not_true, not_false, and_true, and_false, true_and, false_and, reduceIte]; rfl) (Can.tos (.cons rfl (by simp [elD, cellD]) .nil)))
          have hk47 := hb
          refine TC.skip ?_
          show TC _ _ _ _ _ _
          refine TC.region ?_
          refine TL.vE (Val.move 1 rfl rfl) ?_
          refine TL.vE (Val.addO rfl rfl rfl) ?_
          refine TL.vE (Val.assign 1 rfl rfl) ?_
          refine TL.nil ?_
          show TC _ _ _ _ _ _
          refine TC.region ?_
          refine TL.vE (Val.move 1 rfl rfl) ?_
          refine TL.vE (Val.addO rfl rfl rfl) ?_
          refine TL.vE (Val.assign 1 rfl rfl) ?_
          refine TL.nil ?_
          first
          | (exfalso; first | (simp at hg2; done) | (simp only [nso, List.length_map, inR] at *; omega))
          | (first | refine Seq.normal ⟨_, ?_, i + 1, b, ws, ?_, rfl, ?_⟩ | refine Seq.normal (Q := fun _ _ => True) ⟨_, ?_, i + 1, b, ws, ?_, rfl, ?_⟩
             · omega
             · exact ⟨by omega, words_stay hyp.2.1 (by rw [blank_is hc]; simp only [nso, List.length_map, inR] at *; omega), (okTo_step hyp.2.2 hc (by intro hlt; simp only [nso, List.length_map, inR] at *; omega))⟩
             · exact Can.tos (.cons rfl rfl .nil))
          | (first | refine Seq.normal ⟨_, ?_, i + 1, i + 1, ws, ?_, rfl, ?_⟩ | refine Seq.normal (Q := fun _ _ => True) ⟨_, ?_, i + 1, i + 1, ws, ?_, rfl, ?_⟩
             · omega
             · exact ⟨by omega, words_skip hyp.2.1 (by rw [blank_is hc]; simp only [nso, List.length_map, inR] at *; omega) (by simp only [nso, List.length_map, inR] at *; omega), (okTo_step hyp.2.2 hc (by intro hlt; simp only [nso, List.length_map, inR] at *; omega))⟩
             · exact Can.tos (.cons rfl rfl .nil))
          | (first | refine Seq.normal ⟨_, ?_, i + 1, i + 1, ws ++ [s.extract b i], ?_, rfl, ?_⟩ | refine Seq.normal (Q := fun _ _ => True) ⟨_, ?_, i + 1, i + 1, ws ++ [s.extract b i], ?_, rfl, ?_⟩
             · omega
             · exact ⟨by omega, words_add hyp.2.1 (by rw [blank_is hc]; simp only [nso, List.length_map, inR] at *; omega) (by simp only [nso, List.length_map, inR] at *; omega), (okTo_step hyp.2.2 hc (by intro hlt; simp only [nso, List.length_map, inR] at *; omega))⟩
             · exact Can.name 54 4 (by simp only [St.name, nameS, nameV, nameC, nameR, List.map_cons, List.map_nil, Nat.reduceEqDiff, if_true, if_false, ne_eq, not_true, not_false, and_true, and_false, true_and, false_and, reduceIte]; rfl) (Can.tos (.cons rfl (by simp [elD, cellD]) .nil)))
    have hk15 := hb
    refine TC.exit ?_
    show TC _ _ _ _ _ _
    refine TC.seq ?_
    refine TC.seq ?_
    have hie : i = s.size + 1 := by simp at hb; omega
    have hpe := parts_end hs6 hie hyp.2.1 hyp.2.2
    refine TC.region ?_
    refine TL.vE (Val.move 1 rfl rfl) ?_
    refine TL.vE (by first | exact Val.len rfl rfl rfl rfl | exact Val.lenS rfl rfl rfl) ?_
    refine TL.vE (Val.gtr rfl rfl rfl) ?_
    refine TL.nil ?_
    show TC _ _ _ _ _ _
    refine TC.cond rfl (fun hb => ?_) (fun hb => ?_)
    · have hk59 := hb
      refine TC.seq ?_
      refine TC.region ?_
      refine TL.opK rfl fun K hK => ?_
      refine OpT.build0 (sz := 1) rfl rfl rfl rfl ?_
      simp only [nrm, Nat.reduceBEq, Nat.reduceBNe, reduceIte]
      refine hK _ ?_
      clear hK K
      refine TL.vE (Val.assign 1 rfl rfl) ?_
      refine TL.vE (Val.assign 1 rfl rfl) ?_
      refine TL.nil ?_
      show TC _ _ _ _ _ _
      refine TC.ret ?_
      exact ⟨.inr rfl, [_, _], [_, _], _, rfl, by decide, rfl, by simp [refV, refC, valC], rfl, (by rw [if_pos (by simp at hb; omega)] at hpe; simp only [RParts, hpe]; rfl)⟩
    have hk59 := hb
    refine TC.skip ?_
    show TC _ _ _ _ _ _
    refine TC.seq ?_
    refine TC.region ?_
    refine TL.vE (Val.move 1 rfl rfl) ?_
    refine TL.vE (Val.assign 1 rfl rfl) ?_
    refine TL.vE (Val.assign 1 rfl rfl) ?_
    refine TL.nil ?_
    show TC _ _ _ _ _ _
    refine TC.ret ?_
    exact ⟨.inr rfl, [_, _], [_, _], _, rfl, by decide, rfl, by simp [refV, refC, valC], rfl, (by rw [if_neg (by simp at hb; omega)] at hpe; simp only [RParts, hpe]; rfl)⟩

theorem impl_PartsOf_f (s : ByteArray) : Fun Tryz.prog 15 [S s] (RParts (parts s)) := by
  refine Fun.of Tryz.func15 rfl (by simp [Tryz.ntmps15]) fun w g0 => ?_
  simp only [Tryz.ntmps15, List.length_cons, List.length_nil, Nat.reduceAdd, Nat.reduceSub, List.replicate, List.cons_append, List.nil_append]
  refine TC.seq ?_
  refine TC.region ?_
  refine TL.vE (Val.assign 1 rfl rfl) ?_
  refine TL.vE (Val.assign 1 rfl rfl) ?_
  refine TL.nil ?_
  show TC _ _ _ _ _ _
  refine TC.seq ?_
  refine TC.seq ?_
  refine TC.region ?_
  refine TL.vE (Val.move 1 rfl rfl) ?_
  refine TL.vE (by first | exact Val.len rfl rfl rfl rfl | exact Val.lenS rfl rfl rfl) ?_
  refine TL.vE (Val.gtr rfl rfl rfl) ?_
  refine TL.nil ?_
  show TC _ _ _ _ _ _
  refine TC.cond rfl (fun hb => ?_) (fun hb => ?_)
  · have hk10 := hb
    refine TC.seq ?_
    refine TC.region ?_
    refine TL.opK rfl fun K hK => ?_
    refine OpT.moveNil (.inr rfl) rfl 1 ?_
    simp only [nrm, Nat.reduceBEq, Nat.reduceBNe, reduceIte]
    refine hK _ ?_
    clear hK K
    refine TL.vE (Val.assign 1 rfl rfl) ?_
    refine TL.nil ?_
    show TC _ _ _ _ _ _
    refine TC.ret ?_
    exact ⟨.inr rfl, [_, _], [_, _], _, rfl, by decide, rfl, by simp [refV, refC, valC], rfl, (by have h0 := (parts_long (s := s) (by simp at hb; omega)); simp only [RParts, h0]; rfl)⟩
  have hk10 := hb
  refine TC.skip ?_
  show TC _ _ _ _ _ _
  refine TC.seq ?_
  have hs6 : s.size ≤ 600 := by simp at hb; omega
  refine TC.region ?_
  refine TL.opK rfl fun K hK => ?_
  refine OpT.build0 (sz := 1) rfl rfl rfl rfl ?_
  simp only [nrm, Nat.reduceBEq, Nat.reduceBNe, reduceIte]
  refine hK _ ?_
  clear hK K
  refine TL.vE (Val.assign 1 rfl rfl) ?_
  refine TL.nil ?_
  show TC _ _ _ _ _ _
  refine TC.seq ?_
  refine TC.region ?_
  refine TL.vE (Val.assign 1 rfl rfl) ?_
  refine TL.nil ?_
  show TC _ _ _ _ _ _
  refine TC.seq ?_
  refine TC.seq ?_
  refine TC.region ?_
  refine TL.vE (Val.assign 1 rfl rfl) ?_
  refine TL.nil ?_
  show TC _ _ _ _ _ _
  refine TC.block ?_
  refine TC.loop (fun μ st => ∃ (i b : Nat) (ws : List ByteArray) (f : Int), (i ≤ s.size + 1 ∧ wordsTo s i = (ws, b) ∧ okTo s i = true ∧ f = if b < i then (b : Int) else -1) ∧ μ = s.size + 1 - i ∧ Can st ⟨[S s, .one .dead, .one .dead, .one .dead, .one (.c (.ref ⟨4, [], 0⟩)), I f, I i, .one .dead, .one .dead, .one .dead, .one .dead, .one .dead, .one .dead, .one .dead, .one .dead, .one .dead, .one .dead, .one .dead, .one .dead, .one .dead, .one .dead, .one .dead, .one .dead, .one .dead, .one .dead, .one .dead, .one .dead, .one .dead, .one .dead, .one .dead, .one .dead, .one .dead, .one .dead, .one .dead, .one .dead, .one .dead, .one .dead, .one .dead, .one .dead, .one .dead, .one .dead, .one .dead, .one .dead, .one .dead, .one .dead, .one .dead, .one .dead, .one .dead, .one .dead, .one .dead, .one .dead, .one .dead, .one .dead, .one .dead, .one .dead, .one .dead, .one .dead, .one .dead, .one .dead, .one .dead, .one .dead, .one .dead, .one .dead, .one .dead, .one .dead], [(4, ⟨false, [.own (.sl 1 (ws.map fun w => .v (.string w)))]⟩)]⟩) (s.size + 1) ?_ fun μ st hI => ?_
  · refine ⟨0, 0, [], -1, ⟨by omega, rfl, rfl, rfl⟩, by simp, ?_⟩
    exact Can.name 11 4 (by simp only [St.name, nameS, nameV, nameC, nameR, List.map_cons, List.map_nil, Nat.reduceEqDiff, if_true, if_false, ne_eq, not_true, not_false, and_true, and_false, true_and, false_and, reduceIte]; rfl) (Can.tos (.cons rfl (by simp [elD, cellD]) .nil))
  · obtain ⟨i, b, ws, f, hyp, rfl, hcan⟩ := hI
    refine TC.can hcan ?_
    clear hcan
    refine TC.seq ?_
    refine TC.seq ?_
    refine TC.region ?_
    refine TL.vE (Val.move 1 rfl rfl) ?_
    refine TL.vE (Val.move 1 rfl rfl) ?_
    refine TL.vE (by first | exact Val.len rfl rfl rfl rfl | exact Val.lenS rfl rfl rfl) ?_
    refine TL.vE (Val.leq rfl rfl rfl) ?_
    refine TL.nil ?_
    show TC _ _ _ _ _ _
    refine TC.cond rfl (fun hb => ?_) (fun hb => ?_)
    · have hk15 := hb
      refine TC.skip ?_
      show TC _ _ _ _ _ _
      refine TC.seq ?_
      refine TC.block ?_
      refine TC.seq ?_
      refine TC.seq ?_
      have hi : i ≤ s.size := by simp at hb; omega
      obtain ⟨c, hc⟩ := byte_at s i
      have hwl := words_le hyp.2.1
      refine TC.region ?_
      refine TL.vE (Val.move 1 rfl rfl) ?_
      refine TL.vE (Val.move 1 rfl rfl) ?_
      refine TL.vE (by first | exact Val.len rfl rfl rfl rfl | exact Val.lenS rfl rfl rfl) ?_
      refine TL.vE (Val.lss rfl rfl rfl) ?_
      refine TL.vE (Val.move 1 rfl rfl) ?_
      refine TL.splitG 4 rfl (fun hg4 => ?_) (fun hg4 => ?_)
      · refine TL.gE rfl hg4 (Val.move 1 rfl rfl) ?_
        refine TL.gE rfl hg4 (Val.move 1 rfl rfl) ?_
        refine TL.gE rfl hg4 (by exact Val.indexS rfl rfl rfl rfl (by omega) (hc (by have h4 := hg4; simp only [decide_eq_true_eq] at h4; omega)).1) ?_
        refine TL.gE rfl hg4 (by exact Val.conv rfl rfl rfl rfl rfl (k' := .i64) (b := c.toNat) (wrap_i64 (by omega) (by have := c.toNat_lt; omega))) ?_
        refine TL.cF ((impl_within_f _ _ _).k) ?_ (yes_some rfl rfl hg4)
        refine TL.gE rfl hg4 (Val.not rfl rfl) ?_
        refine TL.vE (Val.pickT rfl rfl hg4 rfl) ?_
        refine TL.nil ?_
        show TC _ _ _ _ _ _
        refine TC.cond rfl (fun hb => ?_) (fun hb => ?_)
        · have hk29 := hb
          refine TC.seq ?_
          refine TC.region ?_
          refine TL.opK rfl fun K hK => ?_
          refine OpT.moveNil (.inr rfl) rfl 1 ?_
          simp only [nrm, Nat.reduceBEq, Nat.reduceBNe, reduceIte]
          refine hK _ ?_
          clear hK K
          refine TL.vE (Val.assign 1 rfl rfl) ?_
          refine TL.nil ?_
          show TC _ _ _ _ _ _
          refine TC.ret ?_
          exact ⟨.inr rfl, [_, _], [_, _], _, rfl, by decide, rfl, by simp [refV, refC, valC], rfl, (by have h0 := (parts_bad hc (by have h4 := hg4; simp only [decide_eq_true_eq] at h4; omega) (by simp only [nso, List.length_map, inR] at *; omega)); simp only [RParts, h0]; rfl)⟩
        have hk29 := hb
        refine TC.skip ?_
        show TC _ _ _ _ _ _
        refine TC.seq ?_
        refine TC.region ?_
        refine TL.vE (Val.move 1 rfl rfl) ?_
        refine TL.vE (Val.move 1 rfl rfl) ?_
        refine TL.vE (by first | exact Val.len rfl rfl rfl rfl | exact Val.lenS rfl rfl rfl) ?_
        refine TL.vE (Val.eql rfl rfl rfl) ?_
        refine TL.vE (Val.move 1 rfl rfl) ?_
        refine TL.splitG 4 rfl (fun hg4 => ?_) (fun hg4 => ?_)
        · iterate 4 (refine TL.skip (nope_b rfl rfl hg4) (by simp only [nput]; rfl) ?_)
          refine TL.vE (Val.pickT rfl rfl hg4 rfl) ?_
          refine TL.vE (Val.assign 1 rfl rfl) ?_
          refine TL.nil ?_
          show TC _ _ _ _ _ _
          refine TC.block ?_
          refine TC.seq ?_
          refine TC.region ?_
          refine TL.vE (Val.move 1 rfl rfl) ?_
          refine TL.vE (Val.not rfl rfl) ?_
          refine TL.vE (Val.move 1 rfl rfl) ?_
          refine TL.splitG 2 rfl (fun hg2 => ?_) (fun hg2 => ?_)
          · refine TL.gE rfl hg2 (Val.move 1 rfl rfl) ?_
            refine TL.gE rfl hg2 (Val.lss rfl rfl rfl) ?_
            refine TL.vE (Val.pickT rfl rfl hg2 rfl) ?_
            refine TL.vE (Val.assign 1 rfl rfl) ?_
            refine TL.nil ?_
            show TC _ _ _ _ _ _
            refine TC.cond rfl (fun hb => ?_) (fun hb => ?_)
            · have hk40 := hb
              refine TC.region ?_
              refine TL.vE (Val.move 1 rfl rfl) ?_
              refine TL.vE (Val.assign 1 rfl rfl) ?_
              refine TL.nil ?_
              show TC _ _ _ _ _ _
              refine TC.region ?_
              refine TL.vE (Val.move 1 rfl rfl) ?_
              refine TL.vE (Val.addO rfl rfl rfl) ?_
              refine TL.vE (Val.assign 1 rfl rfl) ?_
              refine TL.nil ?_
              first
              | (exfalso; first | (simp at hg2; done) | (simp only [nso, List.length_map, inR] at *; omega))
              | (first | refine Seq.normal ⟨_, ?_, i + 1, b, ws, i, ?_, rfl, ?_⟩ | refine Seq.normal (Q := fun _ _ => True) ⟨_, ?_, i + 1, b, ws, i, ?_, rfl, ?_⟩
                 · omega
                 · exact ⟨by omega, words_stay hyp.2.1 (by rw [blank_is hc]; simp only [nso, List.length_map, inR] at *; omega), (okTo_step hyp.2.2.1 hc (by intro hlt; simp only [nso, List.length_map, inR] at *; omega)), by have := hyp.2.2.2; split at this <;> (split <;> (simp only [nso, List.length_map, inR] at *; omega))⟩
                 · exact Can.tos (.cons rfl rfl .nil))
            have hk40 := hb
            refine TC.seq ?_
            refine TC.region ?_
            refine TL.vE (Val.move 1 rfl rfl) ?_
            refine TL.vE (Val.move 1 rfl rfl) ?_
            refine TL.gE rfl rfl (Val.move 1 rfl rfl) ?_
            refine TL.gE rfl rfl (Val.geq rfl rfl rfl) ?_
            refine TL.vE (Val.pickT rfl rfl rfl rfl) ?_
            refine TL.vE (Val.assign 1 rfl rfl) ?_
            refine TL.nil ?_
            show TC _ _ _ _ _ _
            refine TC.cond rfl (fun hb => ?_) (fun hb => ?_)
            · have hk48 := hb
              refine TC.seq ?_
              have hfb : f = (b : Int) := by have := hyp.2.2.2; split at this <;> (simp only [nso, List.length_map, inR] at *; omega)
              subst hfb
              refine TC.region ?_
              refine TL.vE (Val.move 1 rfl rfl) ?_
              refine TL.vE (Val.move 1 rfl rfl) ?_
              refine TL.vE (Val.move 1 rfl rfl) ?_
              refine TL.vE (Val.move 1 rfl rfl) ?_
              refine TL.vE (Val.sliceS rfl rfl rfl rfl rfl (by omega) (by omega) (by simp; omega)) ?_
              refine TL.opK rfl fun K hK => ?_
              refine OpT.buildP rfl rfl (xs := [(Go.Operand.tmp 58)]) rfl rfl rfl rfl (sz := 1) rfl rfl rfl (by decide) (by decide) ?_
              simp only [nrm, Nat.reduceBEq, Nat.reduceBNe, reduceIte]
              refine hK _ ?_
              clear hK K
              refine TL.opK rfl fun K hK => ?_
              refine OpT.appendE rfl rfl rfl (sz := 1) rfl rfl rfl (by simp [isPlain, D.row, elD, cellD]) rfl rfl rfl rfl rfl rfl rfl (by simp; try omega) ?_
              simp only [nrm, Nat.reduceBEq, Nat.reduceBNe, reduceIte]
              refine hK _ ?_
              clear hK K
              refine TL.vE (Val.assign 1 rfl rfl) ?_
              refine TL.nil ?_
              show TC _ _ _ _ _ _
              refine TC.region ?_
              refine TL.vE (Val.assign 1 rfl rfl) ?_
              refine TL.nil ?_
              show TC _ _ _ _ _ _
              refine TC.region ?_
              refine TL.vE (Val.move 1 rfl rfl) ?_
              refine TL.vE (Val.addO rfl rfl rfl) ?_
              refine TL.vE (Val.assign 1 rfl rfl) ?_
              refine TL.nil ?_
              first
              | (exfalso; first | (simp at hg2; done) | (simp only [nso, List.length_map, inR] at *; omega))
              | (first | refine Seq.normal ⟨_, ?_, i + 1, i + 1, ws ++ [s.extract b i], -1, ?_, rfl, ?_⟩ | refine Seq.normal (Q := fun _ _ => True) ⟨_, ?_, i + 1, i + 1, ws ++ [s.extract b i], -1, ?_, rfl, ?_⟩
                 · omega
                 · exact ⟨by omega, words_add hyp.2.1 (by rw [blank_is hc]; simp only [nso, List.length_map, inR] at *; omega) (by have := hyp.2.2.2; split at this <;> (simp only [nso, List.length_map, inR] at *; omega)), (okTo_step hyp.2.2.1 hc (by intro hlt; simp only [nso, List.length_map, inR] at *; omega)), by rw [if_neg (by omega)]⟩
                 · exact Can.name 60 4 (by simp only [St.name, nameS, nameV, nameC, nameR, List.map_cons, List.map_nil, Nat.reduceEqDiff, if_true, if_false, ne_eq, not_true, not_false, and_true, and_false, true_and, false_and, reduceIte]; rfl) (Can.tos (.cons rfl (by simp [elD, cellD]) .nil)))
            have hk48 := hb
            refine TC.skip ?_
            show TC _ _ _ _ _ _
            refine TC.region ?_
            refine TL.vE (Val.move 1 rfl rfl) ?_
            refine TL.vE (Val.addO rfl rfl rfl) ?_
            refine TL.vE (Val.assign 1 rfl rfl) ?_
            refine TL.nil ?_
            first
            | (exfalso; first | (simp at hg2; done) | (simp only [nso, List.length_map, inR] at *; omega))
            | (first | refine Seq.normal ⟨_, ?_, i + 1, b, ws, f, ?_, rfl, ?_⟩ | refine Seq.normal (Q := fun _ _ => True) ⟨_, ?_, i + 1, b, ws, f, ?_, rfl, ?_⟩
               · omega
               · exact ⟨by omega, words_stay hyp.2.1 (by rw [blank_is hc]; simp only [nso, List.length_map, inR] at *; omega), (okTo_step hyp.2.2.1 hc (by intro hlt; simp only [nso, List.length_map, inR] at *; omega)), by have := hyp.2.2.2; split at this <;> (split <;> (simp only [nso, List.length_map, inR] at *; omega))⟩
               · exact Can.tos (.cons rfl rfl .nil))
            | (first | refine Seq.normal ⟨_, ?_, i + 1, i + 1, ws, f, ?_, rfl, ?_⟩ | refine Seq.normal (Q := fun _ _ => True) ⟨_, ?_, i + 1, i + 1, ws, f, ?_, rfl, ?_⟩
               · omega
               · exact ⟨by omega, words_skip hyp.2.1 (by rw [blank_is hc]; simp only [nso, List.length_map, inR] at *; omega) (by have := hyp.2.2.2; split at this <;> (simp only [nso, List.length_map, inR] at *; omega)), (okTo_step hyp.2.2.1 hc (by intro hlt; simp only [nso, List.length_map, inR] at *; omega)), by have := hyp.2.2.2; split at this <;> (split <;> (simp only [nso, List.length_map, inR] at *; omega))⟩
               · exact Can.tos (.cons rfl rfl .nil))
          · iterate 2 (refine TL.skip (nope_b rfl rfl hg2) (by simp only [nput]; rfl) ?_)
            refine TL.vE (Val.pickF rfl rfl hg2 rfl) ?_
            refine TL.vE (Val.assign 1 rfl rfl) ?_
            refine TL.nil ?_
            show TC _ _ _ _ _ _
            refine TC.cond rfl (fun hb => absurd hb (by simp)) (fun hb => ?_)
            refine TC.seq ?_
            refine TC.region ?_
            refine TL.vE (Val.move 1 rfl rfl) ?_
            refine TL.vE (Val.move 1 rfl rfl) ?_
            refine TL.gE rfl rfl (Val.move 1 rfl rfl) ?_
            refine TL.gE rfl rfl (Val.geq rfl rfl rfl) ?_
            refine TL.vE (Val.pickT rfl rfl rfl rfl) ?_
            refine TL.vE (Val.assign 1 rfl rfl) ?_
            refine TL.nil ?_
            show TC _ _ _ _ _ _
            refine TC.cond rfl (fun hb => ?_) (fun hb => ?_)
            · have hk48 := hb
              refine TC.seq ?_
              have hfb : f = (b : Int) := by have := hyp.2.2.2; split at this <;> (simp only [nso, List.length_map, inR] at *; omega)
              subst hfb
              refine TC.region ?_
              refine TL.vE (Val.move 1 rfl rfl) ?_
              refine TL.vE (Val.move 1 rfl rfl) ?_
              refine TL.vE (Val.move 1 rfl rfl) ?_
              refine TL.vE (Val.move 1 rfl rfl) ?_
              refine TL.vE (Val.sliceS rfl rfl rfl rfl rfl (by omega) (by omega) (by simp; omega)) ?_
              refine TL.opK rfl fun K hK => ?_
              refine OpT.buildP rfl rfl (xs := [(Go.Operand.tmp 58)]) rfl rfl rfl rfl (sz := 1) rfl rfl rfl (by decide) (by decide) ?_
              simp only [nrm, Nat.reduceBEq, Nat.reduceBNe, reduceIte]
              refine hK _ ?_
              clear hK K
              refine TL.opK rfl fun K hK => ?_
              refine OpT.appendE rfl rfl rfl (sz := 1) rfl rfl rfl (by simp [isPlain, D.row, elD, cellD]) rfl rfl rfl rfl rfl rfl rfl (by simp; try omega) ?_
              simp only [nrm, Nat.reduceBEq, Nat.reduceBNe, reduceIte]
              refine hK _ ?_
              clear hK K
              refine TL.vE (Val.assign 1 rfl rfl) ?_
              refine TL.nil ?_
              show TC _ _ _ _ _ _
              refine TC.region ?_
              refine TL.vE (Val.assign 1 rfl rfl) ?_
              refine TL.nil ?_
              show TC _ _ _ _ _ _
              refine TC.region ?_
              refine TL.vE (Val.move 1 rfl rfl) ?_
              refine TL.vE (Val.addO rfl rfl rfl) ?_
              refine TL.vE (Val.assign 1 rfl rfl) ?_
              refine TL.nil ?_
              first
              | (exfalso; first | (simp at hg2; done) | (simp only [nso, List.length_map, inR] at *; omega))
              | (first | refine Seq.normal ⟨_, ?_, i + 1, i + 1, ws ++ [s.extract b i], -1, ?_, rfl, ?_⟩ | refine Seq.normal (Q := fun _ _ => True) ⟨_, ?_, i + 1, i + 1, ws ++ [s.extract b i], -1, ?_, rfl, ?_⟩
                 · omega
                 · exact ⟨by omega, words_add hyp.2.1 (by rw [blank_is hc]; simp only [nso, List.length_map, inR] at *; omega) (by have := hyp.2.2.2; split at this <;> (simp only [nso, List.length_map, inR] at *; omega)), (okTo_step hyp.2.2.1 hc (by intro hlt; simp only [nso, List.length_map, inR] at *; omega)), by rw [if_neg (by omega)]⟩
                 · exact Can.name 60 4 (by simp only [St.name, nameS, nameV, nameC, nameR, List.map_cons, List.map_nil, Nat.reduceEqDiff, if_true, if_false, ne_eq, not_true, not_false, and_true, and_false, true_and, false_and, reduceIte]; rfl) (Can.tos (.cons rfl (by simp [elD, cellD]) .nil)))
            have hk48 := hb
            refine TC.skip ?_
            show TC _ _ _ _ _ _
            refine TC.region ?_
            refine TL.vE (Val.move 1 rfl rfl) ?_
            refine TL.vE (Val.addO rfl rfl rfl) ?_
            refine TL.vE (Val.assign 1 rfl rfl) ?_
            refine TL.nil ?_
            first
            | (exfalso; first | (simp at hg2; done) | (simp only [nso, List.length_map, inR] at *; omega))
            | (first | refine Seq.normal ⟨_, ?_, i + 1, b, ws, f, ?_, rfl, ?_⟩ | refine Seq.normal (Q := fun _ _ => True) ⟨_, ?_, i + 1, b, ws, f, ?_, rfl, ?_⟩
               · omega
               · exact ⟨by omega, words_stay hyp.2.1 (by rw [blank_is hc]; simp only [nso, List.length_map, inR] at *; omega), (okTo_step hyp.2.2.1 hc (by intro hlt; simp only [nso, List.length_map, inR] at *; omega)), by have := hyp.2.2.2; split at this <;> (split <;> (simp only [nso, List.length_map, inR] at *; omega))⟩
               · exact Can.tos (.cons rfl rfl .nil))
            | (first | refine Seq.normal ⟨_, ?_, i + 1, i + 1, ws, f, ?_, rfl, ?_⟩ | refine Seq.normal (Q := fun _ _ => True) ⟨_, ?_, i + 1, i + 1, ws, f, ?_, rfl, ?_⟩
               · omega
               · exact ⟨by omega, words_skip hyp.2.1 (by rw [blank_is hc]; simp only [nso, List.length_map, inR] at *; omega) (by have := hyp.2.2.2; split at this <;> (simp only [nso, List.length_map, inR] at *; omega)), (okTo_step hyp.2.2.1 hc (by intro hlt; simp only [nso, List.length_map, inR] at *; omega)), by have := hyp.2.2.2; split at this <;> (split <;> (simp only [nso, List.length_map, inR] at *; omega))⟩
               · exact Can.tos (.cons rfl rfl .nil))
        · refine TL.gE rfl hg4 (Val.move 1 rfl rfl) ?_
          refine TL.gE rfl hg4 (Val.move 1 rfl rfl) ?_
          refine TL.gE rfl hg4 (by exact Val.indexS rfl rfl rfl rfl (by omega) (hc (by have h4 := hg4; simp only [decide_eq_false_iff_not, beq_eq_false_iff_ne, ne_eq] at h4; omega)).1) ?_
          refine TL.gE rfl hg4 (Val.eql rfl rfl rfl) ?_
          refine TL.vE (Val.pickF rfl rfl hg4 rfl) ?_
          refine TL.vE (Val.assign 1 rfl rfl) ?_
          refine TL.nil ?_
          show TC _ _ _ _ _ _
          refine TC.block ?_
          refine TC.seq ?_
          refine TC.region ?_
          refine TL.vE (Val.move 1 rfl rfl) ?_
          refine TL.vE (Val.not rfl rfl) ?_
          refine TL.vE (Val.move 1 rfl rfl) ?_
          refine TL.splitG 2 rfl (fun hg2 => ?_) (fun hg2 => ?_)
          · refine TL.gE rfl hg2 (Val.move 1 rfl rfl) ?_
            refine TL.gE rfl hg2 (Val.lss rfl rfl rfl) ?_
            refine TL.vE (Val.pickT rfl rfl hg2 rfl) ?_
            refine TL.vE (Val.assign 1 rfl rfl) ?_
            refine TL.nil ?_
            show TC _ _ _ _ _ _
            refine TC.cond rfl (fun hb => ?_) (fun hb => ?_)
            · have hk40 := hb
              refine TC.region ?_
              refine TL.vE (Val.move 1 rfl rfl) ?_
              refine TL.vE (Val.assign 1 rfl rfl) ?_
              refine TL.nil ?_
              show TC _ _ _ _ _ _
              refine TC.region ?_
              refine TL.vE (Val.move 1 rfl rfl) ?_
              refine TL.vE (Val.addO rfl rfl rfl) ?_
              refine TL.vE (Val.assign 1 rfl rfl) ?_
              refine TL.nil ?_
              first
              | (exfalso; first | (simp at hg2; done) | (simp only [nso, List.length_map, inR] at *; omega))
              | (first | refine Seq.normal ⟨_, ?_, i + 1, b, ws, i, ?_, rfl, ?_⟩ | refine Seq.normal (Q := fun _ _ => True) ⟨_, ?_, i + 1, b, ws, i, ?_, rfl, ?_⟩
                 · omega
                 · exact ⟨by omega, words_stay hyp.2.1 (by rw [blank_is hc]; simp only [nso, List.length_map, inR] at *; omega), (okTo_step hyp.2.2.1 hc (by intro hlt; simp only [nso, List.length_map, inR] at *; omega)), by have := hyp.2.2.2; split at this <;> (split <;> (simp only [nso, List.length_map, inR] at *; omega))⟩
                 · exact Can.tos (.cons rfl rfl .nil))
            have hk40 := hb
            refine TC.seq ?_
            refine TC.region ?_
            refine TL.vE (Val.move 1 rfl rfl) ?_
            refine TL.vE (Val.move 1 rfl rfl) ?_
            refine TL.splitG 1 rfl (fun hg1 => ?_) (fun hg1 => ?_)
            · refine TL.gE rfl hg1 (Val.move 1 rfl rfl) ?_
              refine TL.gE rfl hg1 (Val.geq rfl rfl rfl) ?_
              refine TL.vE (Val.pickT rfl rfl hg1 rfl) ?_
              refine TL.vE (Val.assign 1 rfl rfl) ?_
              refine TL.nil ?_
              show TC _ _ _ _ _ _
              refine TC.cond rfl (fun hb => ?_) (fun hb => ?_)
              · have hk48 := hb
                refine TC.seq ?_
                have hfb : f = (b : Int) := by have := hyp.2.2.2; split at this <;> (simp only [nso, List.length_map, inR] at *; omega)
                subst hfb
                refine TC.region ?_
                refine TL.vE (Val.move 1 rfl rfl) ?_
                refine TL.vE (Val.move 1 rfl rfl) ?_
                refine TL.vE (Val.move 1 rfl rfl) ?_
                refine TL.vE (Val.move 1 rfl rfl) ?_
                refine TL.vE (Val.sliceS rfl rfl rfl rfl rfl (by omega) (by omega) (by simp; omega)) ?_
                refine TL.opK rfl fun K hK => ?_
                refine OpT.buildP rfl rfl (xs := [(Go.Operand.tmp 58)]) rfl rfl rfl rfl (sz := 1) rfl rfl rfl (by decide) (by decide) ?_
                simp only [nrm, Nat.reduceBEq, Nat.reduceBNe, reduceIte]
                refine hK _ ?_
                clear hK K
                refine TL.opK rfl fun K hK => ?_
                refine OpT.appendE rfl rfl rfl (sz := 1) rfl rfl rfl (by simp [isPlain, D.row, elD, cellD]) rfl rfl rfl rfl rfl rfl rfl (by simp; try omega) ?_
                simp only [nrm, Nat.reduceBEq, Nat.reduceBNe, reduceIte]
                refine hK _ ?_
                clear hK K
                refine TL.vE (Val.assign 1 rfl rfl) ?_
                refine TL.nil ?_
                show TC _ _ _ _ _ _
                refine TC.region ?_
                refine TL.vE (Val.assign 1 rfl rfl) ?_
                refine TL.nil ?_
                show TC _ _ _ _ _ _
                refine TC.region ?_
                refine TL.vE (Val.move 1 rfl rfl) ?_
                refine TL.vE (Val.addO rfl rfl rfl) ?_
                refine TL.vE (Val.assign 1 rfl rfl) ?_
                refine TL.nil ?_
                first
                | (exfalso; first | (simp at hg2; done) | (simp only [nso, List.length_map, inR] at *; omega))
                | (first | refine Seq.normal ⟨_, ?_, i + 1, i + 1, ws ++ [s.extract b i], -1, ?_, rfl, ?_⟩ | refine Seq.normal (Q := fun _ _ => True) ⟨_, ?_, i + 1, i + 1, ws ++ [s.extract b i], -1, ?_, rfl, ?_⟩
                   · omega
                   · exact ⟨by omega, words_add hyp.2.1 (by rw [blank_is hc]; simp only [nso, List.length_map, inR] at *; omega) (by have := hyp.2.2.2; split at this <;> (simp only [nso, List.length_map, inR] at *; omega)), (okTo_step hyp.2.2.1 hc (by intro hlt; simp only [nso, List.length_map, inR] at *; omega)), by rw [if_neg (by omega)]⟩
                   · exact Can.name 60 4 (by simp only [St.name, nameS, nameV, nameC, nameR, List.map_cons, List.map_nil, Nat.reduceEqDiff, if_true, if_false, ne_eq, not_true, not_false, and_true, and_false, true_and, false_and, reduceIte]; rfl) (Can.tos (.cons rfl (by simp [elD, cellD]) .nil)))
              have hk48 := hb
              refine TC.skip ?_
              show TC _ _ _ _ _ _
              refine TC.region ?_
              refine TL.vE (Val.move 1 rfl rfl) ?_
              refine TL.vE (Val.addO rfl rfl rfl) ?_
              refine TL.vE (Val.assign 1 rfl rfl) ?_
              refine TL.nil ?_
              first
              | (exfalso; first | (simp at hg2; done) | (simp only [nso, List.length_map, inR] at *; omega))
              | (first | refine Seq.normal ⟨_, ?_, i + 1, b, ws, f, ?_, rfl, ?_⟩ | refine Seq.normal (Q := fun _ _ => True) ⟨_, ?_, i + 1, b, ws, f, ?_, rfl, ?_⟩
                 · omega
                 · exact ⟨by omega, words_stay hyp.2.1 (by rw [blank_is hc]; simp only [nso, List.length_map, inR] at *; omega), (okTo_step hyp.2.2.1 hc (by intro hlt; simp only [nso, List.length_map, inR] at *; omega)), by have := hyp.2.2.2; split at this <;> (split <;> (simp only [nso, List.length_map, inR] at *; omega))⟩
                 · exact Can.tos (.cons rfl rfl .nil))
              | (first | refine Seq.normal ⟨_, ?_, i + 1, i + 1, ws, f, ?_, rfl, ?_⟩ | refine Seq.normal (Q := fun _ _ => True) ⟨_, ?_, i + 1, i + 1, ws, f, ?_, rfl, ?_⟩
                 · omega
                 · exact ⟨by omega, words_skip hyp.2.1 (by rw [blank_is hc]; simp only [nso, List.length_map, inR] at *; omega) (by have := hyp.2.2.2; split at this <;> (simp only [nso, List.length_map, inR] at *; omega)), (okTo_step hyp.2.2.1 hc (by intro hlt; simp only [nso, List.length_map, inR] at *; omega)), by have := hyp.2.2.2; split at this <;> (split <;> (simp only [nso, List.length_map, inR] at *; omega))⟩
                 · exact Can.tos (.cons rfl rfl .nil))
            · iterate 2 (refine TL.skip (nope_b rfl rfl hg1) (by simp only [nput]; rfl) ?_)
              refine TL.vE (Val.pickF rfl rfl hg1 rfl) ?_
              refine TL.vE (Val.assign 1 rfl rfl) ?_
              refine TL.nil ?_
              show TC _ _ _ _ _ _
              refine TC.cond rfl (fun hb => absurd hb (by simp)) (fun hb => ?_)
              refine TC.skip ?_
              show TC _ _ _ _ _ _
              refine TC.region ?_
              refine TL.vE (Val.move 1 rfl rfl) ?_
              refine TL.vE (Val.addO rfl rfl rfl) ?_
              refine TL.vE (Val.assign 1 rfl rfl) ?_
              refine TL.nil ?_
              first
              | (exfalso; first | (simp at hg2; done) | (simp only [nso, List.length_map, inR] at *; omega))
              | (first | refine Seq.normal ⟨_, ?_, i + 1, b, ws, f, ?_, rfl, ?_⟩ | refine Seq.normal (Q := fun _ _ => True) ⟨_, ?_, i + 1, b, ws, f, ?_, rfl, ?_⟩
                 · omega
                 · exact ⟨by omega, words_stay hyp.2.1 (by rw [blank_is hc]; simp only [nso, List.length_map, inR] at *; omega), (okTo_step hyp.2.2.1 hc (by intro hlt; simp only [nso, List.length_map, inR] at *; omega)), by have := hyp.2.2.2; split at this <;> (split <;> (simp only [nso, List.length_map, inR] at *; omega))⟩
                 · exact Can.tos (.cons rfl rfl .nil))
              | (first | refine Seq.normal ⟨_, ?_, i + 1, i + 1, ws, f, ?_, rfl, ?_⟩ | refine Seq.normal (Q := fun _ _ => True) ⟨_, ?_, i + 1, i + 1, ws, f, ?_, rfl, ?_⟩
                 · omega
                 · exact ⟨by omega, words_skip hyp.2.1 (by rw [blank_is hc]; simp only [nso, List.length_map, inR] at *; omega) (by have := hyp.2.2.2; split at this <;> (simp only [nso, List.length_map, inR] at *; omega)), (okTo_step hyp.2.2.1 hc (by intro hlt; simp only [nso, List.length_map, inR] at *; omega)), by have := hyp.2.2.2; split at this <;> (split <;> (simp only [nso, List.length_map, inR] at *; omega))⟩
                 · exact Can.tos (.cons rfl rfl .nil))
          · iterate 2 (refine TL.skip (nope_b rfl rfl hg2) (by simp only [nput]; rfl) ?_)
            refine TL.vE (Val.pickF rfl rfl hg2 rfl) ?_
            refine TL.vE (Val.assign 1 rfl rfl) ?_
            refine TL.nil ?_
            show TC _ _ _ _ _ _
            refine TC.cond rfl (fun hb => absurd hb (by simp)) (fun hb => ?_)
            refine TC.seq ?_
            refine TC.region ?_
            refine TL.vE (Val.move 1 rfl rfl) ?_
            refine TL.vE (Val.move 1 rfl rfl) ?_
            refine TL.splitG 1 rfl (fun hg1 => ?_) (fun hg1 => ?_)
            · refine TL.gE rfl hg1 (Val.move 1 rfl rfl) ?_
              refine TL.gE rfl hg1 (Val.geq rfl rfl rfl) ?_
              refine TL.vE (Val.pickT rfl rfl hg1 rfl) ?_
              refine TL.vE (Val.assign 1 rfl rfl) ?_
              refine TL.nil ?_
              show TC _ _ _ _ _ _
              refine TC.cond rfl (fun hb => ?_) (fun hb => ?_)
              · have hk48 := hb
                refine TC.seq ?_
                have hfb : f = (b : Int) := by have := hyp.2.2.2; split at this <;> (simp only [nso, List.length_map, inR] at *; omega)
                subst hfb
                refine TC.region ?_
                refine TL.vE (Val.move 1 rfl rfl) ?_
                refine TL.vE (Val.move 1 rfl rfl) ?_
                refine TL.vE (Val.move 1 rfl rfl) ?_
                refine TL.vE (Val.move 1 rfl rfl) ?_
                refine TL.vE (Val.sliceS rfl rfl rfl rfl rfl (by omega) (by omega) (by simp; omega)) ?_
                refine TL.opK rfl fun K hK => ?_
                refine OpT.buildP rfl rfl (xs := [(Go.Operand.tmp 58)]) rfl rfl rfl rfl (sz := 1) rfl rfl rfl (by decide) (by decide) ?_
                simp only [nrm, Nat.reduceBEq, Nat.reduceBNe, reduceIte]
                refine hK _ ?_
                clear hK K
                refine TL.opK rfl fun K hK => ?_
                refine OpT.appendE rfl rfl rfl (sz := 1) rfl rfl rfl (by simp [isPlain, D.row, elD, cellD]) rfl rfl rfl rfl rfl rfl rfl (by simp; try omega) ?_
                simp only [nrm, Nat.reduceBEq, Nat.reduceBNe, reduceIte]
                refine hK _ ?_
                clear hK K
                refine TL.vE (Val.assign 1 rfl rfl) ?_
                refine TL.nil ?_
                show TC _ _ _ _ _ _
                refine TC.region ?_
                refine TL.vE (Val.assign 1 rfl rfl) ?_
                refine TL.nil ?_
                show TC _ _ _ _ _ _
                refine TC.region ?_
                refine TL.vE (Val.move 1 rfl rfl) ?_
                refine TL.vE (Val.addO rfl rfl rfl) ?_
                refine TL.vE (Val.assign 1 rfl rfl) ?_
                refine TL.nil ?_
                first
                | (exfalso; first | (simp at hg2; done) | (simp only [nso, List.length_map, inR] at *; omega))
                | (first | refine Seq.normal ⟨_, ?_, i + 1, i + 1, ws ++ [s.extract b i], -1, ?_, rfl, ?_⟩ | refine Seq.normal (Q := fun _ _ => True) ⟨_, ?_, i + 1, i + 1, ws ++ [s.extract b i], -1, ?_, rfl, ?_⟩
                   · omega
                   · exact ⟨by omega, words_add hyp.2.1 (by rw [blank_is hc]; simp only [nso, List.length_map, inR] at *; omega) (by have := hyp.2.2.2; split at this <;> (simp only [nso, List.length_map, inR] at *; omega)), (okTo_step hyp.2.2.1 hc (by intro hlt; simp only [nso, List.length_map, inR] at *; omega)), by rw [if_neg (by omega)]⟩
                   · exact Can.name 60 4 (by simp only [St.name, nameS, nameV, nameC, nameR, List.map_cons, List.map_nil, Nat.reduceEqDiff, if_true, if_false, ne_eq, not_true, not_false, and_true, and_false, true_and, false_and, reduceIte]; rfl) (Can.tos (.cons rfl (by simp [elD, cellD]) .nil)))
              have hk48 := hb
              refine TC.skip ?_
              show TC _ _ _ _ _ _
              refine TC.region ?_
              refine TL.vE (Val.move 1 rfl rfl) ?_
              refine TL.vE (Val.addO rfl rfl rfl) ?_
              refine TL.vE (Val.assign 1 rfl rfl) ?_
              refine TL.nil ?_
              first
              | (exfalso; first | (simp at hg2; done) | (simp only [nso, List.length_map, inR] at *; omega))
              | (first | refine Seq.normal ⟨_, ?_, i + 1, b, ws, f, ?_, rfl, ?_⟩ | refine Seq.normal (Q := fun _ _ => True) ⟨_, ?_, i + 1, b, ws, f, ?_, rfl, ?_⟩
                 · omega
                 · exact ⟨by omega, words_stay hyp.2.1 (by rw [blank_is hc]; simp only [nso, List.length_map, inR] at *; omega), (okTo_step hyp.2.2.1 hc (by intro hlt; simp only [nso, List.length_map, inR] at *; omega)), by have := hyp.2.2.2; split at this <;> (split <;> (simp only [nso, List.length_map, inR] at *; omega))⟩
                 · exact Can.tos (.cons rfl rfl .nil))
              | (first | refine Seq.normal ⟨_, ?_, i + 1, i + 1, ws, f, ?_, rfl, ?_⟩ | refine Seq.normal (Q := fun _ _ => True) ⟨_, ?_, i + 1, i + 1, ws, f, ?_, rfl, ?_⟩
                 · omega
                 · exact ⟨by omega, words_skip hyp.2.1 (by rw [blank_is hc]; simp only [nso, List.length_map, inR] at *; omega) (by have := hyp.2.2.2; split at this <;> (simp only [nso, List.length_map, inR] at *; omega)), (okTo_step hyp.2.2.1 hc (by intro hlt; simp only [nso, List.length_map, inR] at *; omega)), by have := hyp.2.2.2; split at this <;> (split <;> (simp only [nso, List.length_map, inR] at *; omega))⟩
                 · exact Can.tos (.cons rfl rfl .nil))
            · iterate 2 (refine TL.skip (nope_b rfl rfl hg1) (by simp only [nput]; rfl) ?_)
              refine TL.vE (Val.pickF rfl rfl hg1 rfl) ?_
              refine TL.vE (Val.assign 1 rfl rfl) ?_
              refine TL.nil ?_
              show TC _ _ _ _ _ _
              refine TC.cond rfl (fun hb => absurd hb (by simp)) (fun hb => ?_)
              refine TC.skip ?_
              show TC _ _ _ _ _ _
              refine TC.region ?_
              refine TL.vE (Val.move 1 rfl rfl) ?_
              refine TL.vE (Val.addO rfl rfl rfl) ?_
              refine TL.vE (Val.assign 1 rfl rfl) ?_
              refine TL.nil ?_
              first
              | (exfalso; first | (simp at hg2; done) | (simp only [nso, List.length_map, inR] at *; omega))
              | (first | refine Seq.normal ⟨_, ?_, i + 1, b, ws, f, ?_, rfl, ?_⟩ | refine Seq.normal (Q := fun _ _ => True) ⟨_, ?_, i + 1, b, ws, f, ?_, rfl, ?_⟩
                 · omega
                 · exact ⟨by omega, words_stay hyp.2.1 (by rw [blank_is hc]; simp only [nso, List.length_map, inR] at *; omega), (okTo_step hyp.2.2.1 hc (by intro hlt; simp only [nso, List.length_map, inR] at *; omega)), by have := hyp.2.2.2; split at this <;> (split <;> (simp only [nso, List.length_map, inR] at *; omega))⟩
                 · exact Can.tos (.cons rfl rfl .nil))
              | (first | refine Seq.normal ⟨_, ?_, i + 1, i + 1, ws, f, ?_, rfl, ?_⟩ | refine Seq.normal (Q := fun _ _ => True) ⟨_, ?_, i + 1, i + 1, ws, f, ?_, rfl, ?_⟩
                 · omega
                 · exact ⟨by omega, words_skip hyp.2.1 (by rw [blank_is hc]; simp only [nso, List.length_map, inR] at *; omega) (by have := hyp.2.2.2; split at this <;> (simp only [nso, List.length_map, inR] at *; omega)), (okTo_step hyp.2.2.1 hc (by intro hlt; simp only [nso, List.length_map, inR] at *; omega)), by have := hyp.2.2.2; split at this <;> (split <;> (simp only [nso, List.length_map, inR] at *; omega))⟩
                 · exact Can.tos (.cons rfl rfl .nil))
      · iterate 6 (refine TL.skip (nope_b rfl rfl hg4) (by simp only [nput]; rfl) ?_)
        refine TL.vE (Val.pickF rfl rfl hg4 rfl) ?_
        refine TL.nil ?_
        show TC _ _ _ _ _ _
        refine TC.cond rfl (fun hb => absurd hb (by simp)) (fun hb => ?_)
        refine TC.skip ?_
        show TC _ _ _ _ _ _
        refine TC.seq ?_
        refine TC.region ?_
        refine TL.vE (Val.move 1 rfl rfl) ?_
        refine TL.vE (Val.move 1 rfl rfl) ?_
        refine TL.vE (by first | exact Val.len rfl rfl rfl rfl | exact Val.lenS rfl rfl rfl) ?_
        refine TL.vE (Val.eql rfl rfl rfl) ?_
        refine TL.vE (Val.move 1 rfl rfl) ?_
        refine TL.splitG 4 rfl (fun hg4 => ?_) (fun hg4 => ?_)
        · iterate 4 (refine TL.skip (nope_b rfl rfl hg4) (by simp only [nput]; rfl) ?_)
          refine TL.vE (Val.pickT rfl rfl hg4 rfl) ?_
          refine TL.vE (Val.assign 1 rfl rfl) ?_
          refine TL.nil ?_
          show TC _ _ _ _ _ _
          refine TC.block ?_
          refine TC.seq ?_
          refine TC.region ?_
          refine TL.vE (Val.move 1 rfl rfl) ?_
          refine TL.vE (Val.not rfl rfl) ?_
          refine TL.vE (Val.move 1 rfl rfl) ?_
          refine TL.splitG 2 rfl (fun hg2 => ?_) (fun hg2 => ?_)
          · refine TL.gE rfl hg2 (Val.move 1 rfl rfl) ?_
            refine TL.gE rfl hg2 (Val.lss rfl rfl rfl) ?_
            refine TL.vE (Val.pickT rfl rfl hg2 rfl) ?_
            refine TL.vE (Val.assign 1 rfl rfl) ?_
            refine TL.nil ?_
            show TC _ _ _ _ _ _
            refine TC.cond rfl (fun hb => ?_) (fun hb => ?_)
            · have hk40 := hb
              refine TC.region ?_
              refine TL.vE (Val.move 1 rfl rfl) ?_
              refine TL.vE (Val.assign 1 rfl rfl) ?_
              refine TL.nil ?_
              show TC _ _ _ _ _ _
              refine TC.region ?_
              refine TL.vE (Val.move 1 rfl rfl) ?_
              refine TL.vE (Val.addO rfl rfl rfl) ?_
              refine TL.vE (Val.assign 1 rfl rfl) ?_
              refine TL.nil ?_
              first
              | (exfalso; first | (simp at hg2; done) | (simp only [nso, List.length_map, inR] at *; omega))
              | (first | refine Seq.normal ⟨_, ?_, i + 1, b, ws, i, ?_, rfl, ?_⟩ | refine Seq.normal (Q := fun _ _ => True) ⟨_, ?_, i + 1, b, ws, i, ?_, rfl, ?_⟩
                 · omega
                 · exact ⟨by omega, words_stay hyp.2.1 (by rw [blank_is hc]; simp only [nso, List.length_map, inR] at *; omega), (okTo_step hyp.2.2.1 hc (by intro hlt; simp only [nso, List.length_map, inR] at *; omega)), by have := hyp.2.2.2; split at this <;> (split <;> (simp only [nso, List.length_map, inR] at *; omega))⟩
                 · exact Can.tos (.cons rfl rfl .nil))
            have hk40 := hb
            refine TC.seq ?_
            refine TC.region ?_
            refine TL.vE (Val.move 1 rfl rfl) ?_
            refine TL.vE (Val.move 1 rfl rfl) ?_
            refine TL.gE rfl rfl (Val.move 1 rfl rfl) ?_
            refine TL.gE rfl rfl (Val.geq rfl rfl rfl) ?_
            refine TL.vE (Val.pickT rfl rfl rfl rfl) ?_
            refine TL.vE (Val.assign 1 rfl rfl) ?_
            refine TL.nil ?_
            show TC _ _ _ _ _ _
            refine TC.cond rfl (fun hb => ?_) (fun hb => ?_)
            · have hk48 := hb
              refine TC.seq ?_
              have hfb : f = (b : Int) := by have := hyp.2.2.2; split at this <;> (simp only [nso, List.length_map, inR] at *; omega)
              subst hfb
              refine TC.region ?_
              refine TL.vE (Val.move 1 rfl rfl) ?_
              refine TL.vE (Val.move 1 rfl rfl) ?_
              refine TL.vE (Val.move 1 rfl rfl) ?_
              refine TL.vE (Val.move 1 rfl rfl) ?_
              refine TL.vE (Val.sliceS rfl rfl rfl rfl rfl (by omega) (by omega) (by simp; omega)) ?_
              refine TL.opK rfl fun K hK => ?_
              refine OpT.buildP rfl rfl (xs := [(Go.Operand.tmp 58)]) rfl rfl rfl rfl (sz := 1) rfl rfl rfl (by decide) (by decide) ?_
              simp only [nrm, Nat.reduceBEq, Nat.reduceBNe, reduceIte]
              refine hK _ ?_
              clear hK K
              refine TL.opK rfl fun K hK => ?_
              refine OpT.appendE rfl rfl rfl (sz := 1) rfl rfl rfl (by simp [isPlain, D.row, elD, cellD]) rfl rfl rfl rfl rfl rfl rfl (by simp; try omega) ?_
              simp only [nrm, Nat.reduceBEq, Nat.reduceBNe, reduceIte]
              refine hK _ ?_
              clear hK K
              refine TL.vE (Val.assign 1 rfl rfl) ?_
              refine TL.nil ?_
              show TC _ _ _ _ _ _
              refine TC.region ?_
              refine TL.vE (Val.assign 1 rfl rfl) ?_
              refine TL.nil ?_
              show TC _ _ _ _ _ _
              refine TC.region ?_
              refine TL.vE (Val.move 1 rfl rfl) ?_
              refine TL.vE (Val.addO rfl rfl rfl) ?_
              refine TL.vE (Val.assign 1 rfl rfl) ?_
              refine TL.nil ?_
              first
              | (exfalso; first | (simp at hg2; done) | (simp only [nso, List.length_map, inR] at *; omega))
              | (first | refine Seq.normal ⟨_, ?_, i + 1, i + 1, ws ++ [s.extract b i], -1, ?_, rfl, ?_⟩ | refine Seq.normal (Q := fun _ _ => True) ⟨_, ?_, i + 1, i + 1, ws ++ [s.extract b i], -1, ?_, rfl, ?_⟩
                 · omega
                 · exact ⟨by omega, words_add hyp.2.1 (by rw [blank_is hc]; simp only [nso, List.length_map, inR] at *; omega) (by have := hyp.2.2.2; split at this <;> (simp only [nso, List.length_map, inR] at *; omega)), (okTo_step hyp.2.2.1 hc (by intro hlt; simp only [nso, List.length_map, inR] at *; omega)), by rw [if_neg (by omega)]⟩
                 · exact Can.name 60 4 (by simp only [St.name, nameS, nameV, nameC, nameR, List.map_cons, List.map_nil, Nat.reduceEqDiff, if_true, if_false, ne_eq, not_true, not_false, and_true, and_false, true_and, false_and, reduceIte]; rfl) (Can.tos (.cons rfl (by simp [elD, cellD]) .nil)))
            have hk48 := hb
            refine TC.skip ?_
            show TC _ _ _ _ _ _
            refine TC.region ?_
            refine TL.vE (Val.move 1 rfl rfl) ?_
            refine TL.vE (Val.addO rfl rfl rfl) ?_
            refine TL.vE (Val.assign 1 rfl rfl) ?_
            refine TL.nil ?_
            first
            | (exfalso; first | (simp at hg2; done) | (simp only [nso, List.length_map, inR] at *; omega))
            | (first | refine Seq.normal ⟨_, ?_, i + 1, b, ws, f, ?_, rfl, ?_⟩ | refine Seq.normal (Q := fun _ _ => True) ⟨_, ?_, i + 1, b, ws, f, ?_, rfl, ?_⟩
               · omega
               · exact ⟨by omega, words_stay hyp.2.1 (by rw [blank_is hc]; simp only [nso, List.length_map, inR] at *; omega), (okTo_step hyp.2.2.1 hc (by intro hlt; simp only [nso, List.length_map, inR] at *; omega)), by have := hyp.2.2.2; split at this <;> (split <;> (simp only [nso, List.length_map, inR] at *; omega))⟩
               · exact Can.tos (.cons rfl rfl .nil))
            | (first | refine Seq.normal ⟨_, ?_, i + 1, i + 1, ws, f, ?_, rfl, ?_⟩ | refine Seq.normal (Q := fun _ _ => True) ⟨_, ?_, i + 1, i + 1, ws, f, ?_, rfl, ?_⟩
               · omega
               · exact ⟨by omega, words_skip hyp.2.1 (by rw [blank_is hc]; simp only [nso, List.length_map, inR] at *; omega) (by have := hyp.2.2.2; split at this <;> (simp only [nso, List.length_map, inR] at *; omega)), (okTo_step hyp.2.2.1 hc (by intro hlt; simp only [nso, List.length_map, inR] at *; omega)), by have := hyp.2.2.2; split at this <;> (split <;> (simp only [nso, List.length_map, inR] at *; omega))⟩
               · exact Can.tos (.cons rfl rfl .nil))
          · iterate 2 (refine TL.skip (nope_b rfl rfl hg2) (by simp only [nput]; rfl) ?_)
            refine TL.vE (Val.pickF rfl rfl hg2 rfl) ?_
            refine TL.vE (Val.assign 1 rfl rfl) ?_
            refine TL.nil ?_
            show TC _ _ _ _ _ _
            refine TC.cond rfl (fun hb => absurd hb (by simp)) (fun hb => ?_)
            refine TC.seq ?_
            refine TC.region ?_
            refine TL.vE (Val.move 1 rfl rfl) ?_
            refine TL.vE (Val.move 1 rfl rfl) ?_
            refine TL.gE rfl rfl (Val.move 1 rfl rfl) ?_
            refine TL.gE rfl rfl (Val.geq rfl rfl rfl) ?_
            refine TL.vE (Val.pickT rfl rfl rfl rfl) ?_
            refine TL.vE (Val.assign 1 rfl rfl) ?_
            refine TL.nil ?_
            show TC _ _ _ _ _ _
            refine TC.cond rfl (fun hb => ?_) (fun hb => ?_)
            · have hk48 := hb
              refine TC.seq ?_
              have hfb : f = (b : Int) := by have := hyp.2.2.2; split at this <;> (simp only [nso, List.length_map, inR] at *; omega)
              subst hfb
              refine TC.region ?_
              refine TL.vE (Val.move 1 rfl rfl) ?_
              refine TL.vE (Val.move 1 rfl rfl) ?_
              refine TL.vE (Val.move 1 rfl rfl) ?_
              refine TL.vE (Val.move 1 rfl rfl) ?_
              refine TL.vE (Val.sliceS rfl rfl rfl rfl rfl (by omega) (by omega) (by simp; omega)) ?_
              refine TL.opK rfl fun K hK => ?_
              refine OpT.buildP rfl rfl (xs := [(Go.Operand.tmp 58)]) rfl rfl rfl rfl (sz := 1) rfl rfl rfl (by decide) (by decide) ?_
              simp only [nrm, Nat.reduceBEq, Nat.reduceBNe, reduceIte]
              refine hK _ ?_
              clear hK K
              refine TL.opK rfl fun K hK => ?_
              refine OpT.appendE rfl rfl rfl (sz := 1) rfl rfl rfl (by simp [isPlain, D.row, elD, cellD]) rfl rfl rfl rfl rfl rfl rfl (by simp; try omega) ?_
              simp only [nrm, Nat.reduceBEq, Nat.reduceBNe, reduceIte]
              refine hK _ ?_
              clear hK K
              refine TL.vE (Val.assign 1 rfl rfl) ?_
              refine TL.nil ?_
              show TC _ _ _ _ _ _
              refine TC.region ?_
              refine TL.vE (Val.assign 1 rfl rfl) ?_
              refine TL.nil ?_
              show TC _ _ _ _ _ _
              refine TC.region ?_
              refine TL.vE (Val.move 1 rfl rfl) ?_
              refine TL.vE (Val.addO rfl rfl rfl) ?_
              refine TL.vE (Val.assign 1 rfl rfl) ?_
              refine TL.nil ?_
              first
              | (exfalso; first | (simp at hg2; done) | (simp only [nso, List.length_map, inR] at *; omega))
              | (first | refine Seq.normal ⟨_, ?_, i + 1, i + 1, ws ++ [s.extract b i], -1, ?_, rfl, ?_⟩ | refine Seq.normal (Q := fun _ _ => True) ⟨_, ?_, i + 1, i + 1, ws ++ [s.extract b i], -1, ?_, rfl, ?_⟩
                 · omega
                 · exact ⟨by omega, words_add hyp.2.1 (by rw [blank_is hc]; simp only [nso, List.length_map, inR] at *; omega) (by have := hyp.2.2.2; split at this <;> (simp only [nso, List.length_map, inR] at *; omega)), (okTo_step hyp.2.2.1 hc (by intro hlt; simp only [nso, List.length_map, inR] at *; omega)), by rw [if_neg (by omega)]⟩
                 · exact Can.name 60 4 (by simp only [St.name, nameS, nameV, nameC, nameR, List.map_cons, List.map_nil, Nat.reduceEqDiff, if_true, if_false, ne_eq, not_true, not_false, and_true, and_false, true_and, false_and, reduceIte]; rfl) (Can.tos (.cons rfl (by simp [elD, cellD]) .nil)))
            have hk48 := hb
            refine TC.skip ?_
            show TC _ _ _ _ _ _
            refine TC.region ?_
            refine TL.vE (Val.move 1 rfl rfl) ?_
            refine TL.vE (Val.addO rfl rfl rfl) ?_
            refine TL.vE (Val.assign 1 rfl rfl) ?_
            refine TL.nil ?_
            first
            | (exfalso; first | (simp at hg2; done) | (simp only [nso, List.length_map, inR] at *; omega))
            | (first | refine Seq.normal ⟨_, ?_, i + 1, b, ws, f, ?_, rfl, ?_⟩ | refine Seq.normal (Q := fun _ _ => True) ⟨_, ?_, i + 1, b, ws, f, ?_, rfl, ?_⟩
               · omega
               · exact ⟨by omega, words_stay hyp.2.1 (by rw [blank_is hc]; simp only [nso, List.length_map, inR] at *; omega), (okTo_step hyp.2.2.1 hc (by intro hlt; simp only [nso, List.length_map, inR] at *; omega)), by have := hyp.2.2.2; split at this <;> (split <;> (simp only [nso, List.length_map, inR] at *; omega))⟩
               · exact Can.tos (.cons rfl rfl .nil))
            | (first | refine Seq.normal ⟨_, ?_, i + 1, i + 1, ws, f, ?_, rfl, ?_⟩ | refine Seq.normal (Q := fun _ _ => True) ⟨_, ?_, i + 1, i + 1, ws, f, ?_, rfl, ?_⟩
               · omega
               · exact ⟨by omega, words_skip hyp.2.1 (by rw [blank_is hc]; simp only [nso, List.length_map, inR] at *; omega) (by have := hyp.2.2.2; split at this <;> (simp only [nso, List.length_map, inR] at *; omega)), (okTo_step hyp.2.2.1 hc (by intro hlt; simp only [nso, List.length_map, inR] at *; omega)), by have := hyp.2.2.2; split at this <;> (split <;> (simp only [nso, List.length_map, inR] at *; omega))⟩
               · exact Can.tos (.cons rfl rfl .nil))
        · refine TL.gE rfl hg4 (Val.move 1 rfl rfl) ?_
          refine TL.gE rfl hg4 (Val.move 1 rfl rfl) ?_
          refine TL.gE rfl hg4 (by exact Val.indexS rfl rfl rfl rfl (by omega) (hc (by have h4 := hg4; simp only [decide_eq_false_iff_not, beq_eq_false_iff_ne, ne_eq] at h4; omega)).1) ?_
          refine TL.gE rfl hg4 (Val.eql rfl rfl rfl) ?_
          refine TL.vE (Val.pickF rfl rfl hg4 rfl) ?_
          refine TL.vE (Val.assign 1 rfl rfl) ?_
          refine TL.nil ?_
          show TC _ _ _ _ _ _
          refine TC.block ?_
          refine TC.seq ?_
          refine TC.region ?_
          refine TL.vE (Val.move 1 rfl rfl) ?_
          refine TL.vE (Val.not rfl rfl) ?_
          refine TL.vE (Val.move 1 rfl rfl) ?_
          refine TL.splitG 2 rfl (fun hg2 => ?_) (fun hg2 => ?_)
          · refine TL.gE rfl hg2 (Val.move 1 rfl rfl) ?_
            refine TL.gE rfl hg2 (Val.lss rfl rfl rfl) ?_
            refine TL.vE (Val.pickT rfl rfl hg2 rfl) ?_
            refine TL.vE (Val.assign 1 rfl rfl) ?_
            refine TL.nil ?_
            show TC _ _ _ _ _ _
            refine TC.cond rfl (fun hb => ?_) (fun hb => ?_)
            · have hk40 := hb
              refine TC.region ?_
              refine TL.vE (Val.move 1 rfl rfl) ?_
              refine TL.vE (Val.assign 1 rfl rfl) ?_
              refine TL.nil ?_
              show TC _ _ _ _ _ _
              refine TC.region ?_
              refine TL.vE (Val.move 1 rfl rfl) ?_
              refine TL.vE (Val.addO rfl rfl rfl) ?_
              refine TL.vE (Val.assign 1 rfl rfl) ?_
              refine TL.nil ?_
              first
              | (exfalso; first | (simp at hg2; done) | (simp only [nso, List.length_map, inR] at *; omega))
              | (first | refine Seq.normal ⟨_, ?_, i + 1, b, ws, i, ?_, rfl, ?_⟩ | refine Seq.normal (Q := fun _ _ => True) ⟨_, ?_, i + 1, b, ws, i, ?_, rfl, ?_⟩
                 · omega
                 · exact ⟨by omega, words_stay hyp.2.1 (by rw [blank_is hc]; simp only [nso, List.length_map, inR] at *; omega), (okTo_step hyp.2.2.1 hc (by intro hlt; simp only [nso, List.length_map, inR] at *; omega)), by have := hyp.2.2.2; split at this <;> (split <;> (simp only [nso, List.length_map, inR] at *; omega))⟩
                 · exact Can.tos (.cons rfl rfl .nil))
            have hk40 := hb
            refine TC.seq ?_
            refine TC.region ?_
            refine TL.vE (Val.move 1 rfl rfl) ?_
            refine TL.vE (Val.move 1 rfl rfl) ?_
            refine TL.splitG 1 rfl (fun hg1 => ?_) (fun hg1 => ?_)
            · refine TL.gE rfl hg1 (Val.move 1 rfl rfl) ?_
              refine TL.gE rfl hg1 (Val.geq rfl rfl rfl) ?_
              refine TL.vE (Val.pickT rfl rfl hg1 rfl) ?_
              refine TL.vE (Val.assign 1 rfl rfl) ?_
              refine TL.nil ?_
              show TC _ _ _ _ _ _
              refine TC.cond rfl (fun hb => ?_) (fun hb => ?_)
              · have hk48 := hb
                refine TC.seq ?_
                have hfb : f = (b : Int) := by have := hyp.2.2.2; split at this <;> (simp only [nso, List.length_map, inR] at *; omega)
                subst hfb
                refine TC.region ?_
                refine TL.vE (Val.move 1 rfl rfl) ?_
                refine TL.vE (Val.move 1 rfl rfl) ?_
                refine TL.vE (Val.move 1 rfl rfl) ?_
                refine TL.vE (Val.move 1 rfl rfl) ?_
                refine TL.vE (Val.sliceS rfl rfl rfl rfl rfl (by omega) (by omega) (by simp; omega)) ?_
                refine TL.opK rfl fun K hK => ?_
                refine OpT.buildP rfl rfl (xs := [(Go.Operand.tmp 58)]) rfl rfl rfl rfl (sz := 1) rfl rfl rfl (by decide) (by decide) ?_
                simp only [nrm, Nat.reduceBEq, Nat.reduceBNe, reduceIte]
                refine hK _ ?_
                clear hK K
                refine TL.opK rfl fun K hK => ?_
                refine OpT.appendE rfl rfl rfl (sz := 1) rfl rfl rfl (by simp [isPlain, D.row, elD, cellD]) rfl rfl rfl rfl rfl rfl rfl (by simp; try omega) ?_
                simp only [nrm, Nat.reduceBEq, Nat.reduceBNe, reduceIte]
                refine hK _ ?_
                clear hK K
                refine TL.vE (Val.assign 1 rfl rfl) ?_
                refine TL.nil ?_
                show TC _ _ _ _ _ _
                refine TC.region ?_
                refine TL.vE (Val.assign 1 rfl rfl) ?_
                refine TL.nil ?_
                show TC _ _ _ _ _ _
                refine TC.region ?_
                refine TL.vE (Val.move 1 rfl rfl) ?_
                refine TL.vE (Val.addO rfl rfl rfl) ?_
                refine TL.vE (Val.assign 1 rfl rfl) ?_
                refine TL.nil ?_
                first
                | (exfalso; first | (simp at hg2; done) | (simp only [nso, List.length_map, inR] at *; omega))
                | (first | refine Seq.normal ⟨_, ?_, i + 1, i + 1, ws ++ [s.extract b i], -1, ?_, rfl, ?_⟩ | refine Seq.normal (Q := fun _ _ => True) ⟨_, ?_, i + 1, i + 1, ws ++ [s.extract b i], -1, ?_, rfl, ?_⟩
                   · omega
                   · exact ⟨by omega, words_add hyp.2.1 (by rw [blank_is hc]; simp only [nso, List.length_map, inR] at *; omega) (by have := hyp.2.2.2; split at this <;> (simp only [nso, List.length_map, inR] at *; omega)), (okTo_step hyp.2.2.1 hc (by intro hlt; simp only [nso, List.length_map, inR] at *; omega)), by rw [if_neg (by omega)]⟩
                   · exact Can.name 60 4 (by simp only [St.name, nameS, nameV, nameC, nameR, List.map_cons, List.map_nil, Nat.reduceEqDiff, if_true, if_false, ne_eq, not_true, not_false, and_true, and_false, true_and, false_and, reduceIte]; rfl) (Can.tos (.cons rfl (by simp [elD, cellD]) .nil)))
              have hk48 := hb
              refine TC.skip ?_
              show TC _ _ _ _ _ _
              refine TC.region ?_
              refine TL.vE (Val.move 1 rfl rfl) ?_
              refine TL.vE (Val.addO rfl rfl rfl) ?_
              refine TL.vE (Val.assign 1 rfl rfl) ?_
              refine TL.nil ?_
              first
              | (exfalso; first | (simp at hg2; done) | (simp only [nso, List.length_map, inR] at *; omega))
              | (first | refine Seq.normal ⟨_, ?_, i + 1, b, ws, f, ?_, rfl, ?_⟩ | refine Seq.normal (Q := fun _ _ => True) ⟨_, ?_, i + 1, b, ws, f, ?_, rfl, ?_⟩
                 · omega
                 · exact ⟨by omega, words_stay hyp.2.1 (by rw [blank_is hc]; simp only [nso, List.length_map, inR] at *; omega), (okTo_step hyp.2.2.1 hc (by intro hlt; simp only [nso, List.length_map, inR] at *; omega)), by have := hyp.2.2.2; split at this <;> (split <;> (simp only [nso, List.length_map, inR] at *; omega))⟩
                 · exact Can.tos (.cons rfl rfl .nil))
              | (first | refine Seq.normal ⟨_, ?_, i + 1, i + 1, ws, f, ?_, rfl, ?_⟩ | refine Seq.normal (Q := fun _ _ => True) ⟨_, ?_, i + 1, i + 1, ws, f, ?_, rfl, ?_⟩
                 · omega
                 · exact ⟨by omega, words_skip hyp.2.1 (by rw [blank_is hc]; simp only [nso, List.length_map, inR] at *; omega) (by have := hyp.2.2.2; split at this <;> (simp only [nso, List.length_map, inR] at *; omega)), (okTo_step hyp.2.2.1 hc (by intro hlt; simp only [nso, List.length_map, inR] at *; omega)), by have := hyp.2.2.2; split at this <;> (split <;> (simp only [nso, List.length_map, inR] at *; omega))⟩
                 · exact Can.tos (.cons rfl rfl .nil))
            · iterate 2 (refine TL.skip (nope_b rfl rfl hg1) (by simp only [nput]; rfl) ?_)
              refine TL.vE (Val.pickF rfl rfl hg1 rfl) ?_
              refine TL.vE (Val.assign 1 rfl rfl) ?_
              refine TL.nil ?_
              show TC _ _ _ _ _ _
              refine TC.cond rfl (fun hb => absurd hb (by simp)) (fun hb => ?_)
              refine TC.skip ?_
              show TC _ _ _ _ _ _
              refine TC.region ?_
              refine TL.vE (Val.move 1 rfl rfl) ?_
              refine TL.vE (Val.addO rfl rfl rfl) ?_
              refine TL.vE (Val.assign 1 rfl rfl) ?_
              refine TL.nil ?_
              first
              | (exfalso; first | (simp at hg2; done) | (simp only [nso, List.length_map, inR] at *; omega))
              | (first | refine Seq.normal ⟨_, ?_, i + 1, b, ws, f, ?_, rfl, ?_⟩ | refine Seq.normal (Q := fun _ _ => True) ⟨_, ?_, i + 1, b, ws, f, ?_, rfl, ?_⟩
                 · omega
                 · exact ⟨by omega, words_stay hyp.2.1 (by rw [blank_is hc]; simp only [nso, List.length_map, inR] at *; omega), (okTo_step hyp.2.2.1 hc (by intro hlt; simp only [nso, List.length_map, inR] at *; omega)), by have := hyp.2.2.2; split at this <;> (split <;> (simp only [nso, List.length_map, inR] at *; omega))⟩
                 · exact Can.tos (.cons rfl rfl .nil))
              | (first | refine Seq.normal ⟨_, ?_, i + 1, i + 1, ws, f, ?_, rfl, ?_⟩ | refine Seq.normal (Q := fun _ _ => True) ⟨_, ?_, i + 1, i + 1, ws, f, ?_, rfl, ?_⟩
                 · omega
                 · exact ⟨by omega, words_skip hyp.2.1 (by rw [blank_is hc]; simp only [nso, List.length_map, inR] at *; omega) (by have := hyp.2.2.2; split at this <;> (simp only [nso, List.length_map, inR] at *; omega)), (okTo_step hyp.2.2.1 hc (by intro hlt; simp only [nso, List.length_map, inR] at *; omega)), by have := hyp.2.2.2; split at this <;> (split <;> (simp only [nso, List.length_map, inR] at *; omega))⟩
                 · exact Can.tos (.cons rfl rfl .nil))
          · iterate 2 (refine TL.skip (nope_b rfl rfl hg2) (by simp only [nput]; rfl) ?_)
            refine TL.vE (Val.pickF rfl rfl hg2 rfl) ?_
            refine TL.vE (Val.assign 1 rfl rfl) ?_
            refine TL.nil ?_
            show TC _ _ _ _ _ _
            refine TC.cond rfl (fun hb => absurd hb (by simp)) (fun hb => ?_)
            refine TC.seq ?_
            refine TC.region ?_
            refine TL.vE (Val.move 1 rfl rfl) ?_
            refine TL.vE (Val.move 1 rfl rfl) ?_
            refine TL.splitG 1 rfl (fun hg1 => ?_) (fun hg1 => ?_)
            · refine TL.gE rfl hg1 (Val.move 1 rfl rfl) ?_
              refine TL.gE rfl hg1 (Val.geq rfl rfl rfl) ?_
              refine TL.vE (Val.pickT rfl rfl hg1 rfl) ?_
              refine TL.vE (Val.assign 1 rfl rfl) ?_
              refine TL.nil ?_
              show TC _ _ _ _ _ _
              refine TC.cond rfl (fun hb => ?_) (fun hb => ?_)
              · have hk48 := hb
                refine TC.seq ?_
                have hfb : f = (b : Int) := by have := hyp.2.2.2; split at this <;> (simp only [nso, List.length_map, inR] at *; omega)
                subst hfb
                refine TC.region ?_
                refine TL.vE (Val.move 1 rfl rfl) ?_
                refine TL.vE (Val.move 1 rfl rfl) ?_
                refine TL.vE (Val.move 1 rfl rfl) ?_
                refine TL.vE (Val.move 1 rfl rfl) ?_
                refine TL.vE (Val.sliceS rfl rfl rfl rfl rfl (by omega) (by omega) (by simp; omega)) ?_
                refine TL.opK rfl fun K hK => ?_
                refine OpT.buildP rfl rfl (xs := [(Go.Operand.tmp 58)]) rfl rfl rfl rfl (sz := 1) rfl rfl rfl (by decide) (by decide) ?_
                simp only [nrm, Nat.reduceBEq, Nat.reduceBNe, reduceIte]
                refine hK _ ?_
                clear hK K
                refine TL.opK rfl fun K hK => ?_
                refine OpT.appendE rfl rfl rfl (sz := 1) rfl rfl rfl (by simp [isPlain, D.row, elD, cellD]) rfl rfl rfl rfl rfl rfl rfl (by simp; try omega) ?_
                simp only [nrm, Nat.reduceBEq, Nat.reduceBNe, reduceIte]
                refine hK _ ?_
                clear hK K
                refine TL.vE (Val.assign 1 rfl rfl) ?_
                refine TL.nil ?_
                show TC _ _ _ _ _ _
                refine TC.region ?_
                refine TL.vE (Val.assign 1 rfl rfl) ?_
                refine TL.nil ?_
                show TC _ _ _ _ _ _
                refine TC.region ?_
                refine TL.vE (Val.move 1 rfl rfl) ?_
                refine TL.vE (Val.addO rfl rfl rfl) ?_
                refine TL.vE (Val.assign 1 rfl rfl) ?_
                refine TL.nil ?_
                first
                | (exfalso; first | (simp at hg2; done) | (simp only [nso, List.length_map, inR] at *; omega))
                | (first | refine Seq.normal ⟨_, ?_, i + 1, i + 1, ws ++ [s.extract b i], -1, ?_, rfl, ?_⟩ | refine Seq.normal (Q := fun _ _ => True) ⟨_, ?_, i + 1, i + 1, ws ++ [s.extract b i], -1, ?_, rfl, ?_⟩
                   · omega
                   · exact ⟨by omega, words_add hyp.2.1 (by rw [blank_is hc]; simp only [nso, List.length_map, inR] at *; omega) (by have := hyp.2.2.2; split at this <;> (simp only [nso, List.length_map, inR] at *; omega)), (okTo_step hyp.2.2.1 hc (by intro hlt; simp only [nso, List.length_map, inR] at *; omega)), by rw [if_neg (by omega)]⟩
                   · exact Can.name 60 4 (by simp only [St.name, nameS, nameV, nameC, nameR, List.map_cons, List.map_nil, Nat.reduceEqDiff, if_true, if_false, ne_eq, not_true, not_false, and_true, and_false, true_and, false_and, reduceIte]; rfl) (Can.tos (.cons rfl (by simp [elD, cellD]) .nil)))
              have hk48 := hb
              refine TC.skip ?_
              show TC _ _ _ _ _ _
              refine TC.region ?_
              refine TL.vE (Val.move 1 rfl rfl) ?_
              refine TL.vE (Val.addO rfl rfl rfl) ?_
              refine TL.vE (Val.assign 1 rfl rfl) ?_
              refine TL.nil ?_
              first
              | (exfalso; first | (simp at hg2; done) | (simp only [nso, List.length_map, inR] at *; omega))
              | (first | refine Seq.normal ⟨_, ?_, i + 1, b, ws, f, ?_, rfl, ?_⟩ | refine Seq.normal (Q := fun _ _ => True) ⟨_, ?_, i + 1, b, ws, f, ?_, rfl, ?_⟩
                 · omega
                 · exact ⟨by omega, words_stay hyp.2.1 (by rw [blank_is hc]; simp only [nso, List.length_map, inR] at *; omega), (okTo_step hyp.2.2.1 hc (by intro hlt; simp only [nso, List.length_map, inR] at *; omega)), by have := hyp.2.2.2; split at this <;> (split <;> (simp only [nso, List.length_map, inR] at *; omega))⟩
                 · exact Can.tos (.cons rfl rfl .nil))
              | (first | refine Seq.normal ⟨_, ?_, i + 1, i + 1, ws, f, ?_, rfl, ?_⟩ | refine Seq.normal (Q := fun _ _ => True) ⟨_, ?_, i + 1, i + 1, ws, f, ?_, rfl, ?_⟩
                 · omega
                 · exact ⟨by omega, words_skip hyp.2.1 (by rw [blank_is hc]; simp only [nso, List.length_map, inR] at *; omega) (by have := hyp.2.2.2; split at this <;> (simp only [nso, List.length_map, inR] at *; omega)), (okTo_step hyp.2.2.1 hc (by intro hlt; simp only [nso, List.length_map, inR] at *; omega)), by have := hyp.2.2.2; split at this <;> (split <;> (simp only [nso, List.length_map, inR] at *; omega))⟩
                 · exact Can.tos (.cons rfl rfl .nil))
            · iterate 2 (refine TL.skip (nope_b rfl rfl hg1) (by simp only [nput]; rfl) ?_)
              refine TL.vE (Val.pickF rfl rfl hg1 rfl) ?_
              refine TL.vE (Val.assign 1 rfl rfl) ?_
              refine TL.nil ?_
              show TC _ _ _ _ _ _
              refine TC.cond rfl (fun hb => absurd hb (by simp)) (fun hb => ?_)
              refine TC.skip ?_
              show TC _ _ _ _ _ _
              refine TC.region ?_
              refine TL.vE (Val.move 1 rfl rfl) ?_
              refine TL.vE (Val.addO rfl rfl rfl) ?_
              refine TL.vE (Val.assign 1 rfl rfl) ?_
              refine TL.nil ?_
              first
              | (exfalso; first | (simp at hg2; done) | (simp only [nso, List.length_map, inR] at *; omega))
              | (first | refine Seq.normal ⟨_, ?_, i + 1, b, ws, f, ?_, rfl, ?_⟩ | refine Seq.normal (Q := fun _ _ => True) ⟨_, ?_, i + 1, b, ws, f, ?_, rfl, ?_⟩
                 · omega
                 · exact ⟨by omega, words_stay hyp.2.1 (by rw [blank_is hc]; simp only [nso, List.length_map, inR] at *; omega), (okTo_step hyp.2.2.1 hc (by intro hlt; simp only [nso, List.length_map, inR] at *; omega)), by have := hyp.2.2.2; split at this <;> (split <;> (simp only [nso, List.length_map, inR] at *; omega))⟩
                 · exact Can.tos (.cons rfl rfl .nil))
              | (first | refine Seq.normal ⟨_, ?_, i + 1, i + 1, ws, f, ?_, rfl, ?_⟩ | refine Seq.normal (Q := fun _ _ => True) ⟨_, ?_, i + 1, i + 1, ws, f, ?_, rfl, ?_⟩
                 · omega
                 · exact ⟨by omega, words_skip hyp.2.1 (by rw [blank_is hc]; simp only [nso, List.length_map, inR] at *; omega) (by have := hyp.2.2.2; split at this <;> (simp only [nso, List.length_map, inR] at *; omega)), (okTo_step hyp.2.2.1 hc (by intro hlt; simp only [nso, List.length_map, inR] at *; omega)), by have := hyp.2.2.2; split at this <;> (split <;> (simp only [nso, List.length_map, inR] at *; omega))⟩
                 · exact Can.tos (.cons rfl rfl .nil))
    have hk15 := hb
    refine TC.exit ?_
    show TC _ _ _ _ _ _
    refine TC.seq ?_
    refine TC.seq ?_
    have hie : i = s.size + 1 := by simp at hb; omega
    have hpe := parts_end hs6 hie hyp.2.1 hyp.2.2.1
    refine TC.region ?_
    refine TL.vE (Val.move 1 rfl rfl) ?_
    refine TL.vE (by first | exact Val.len rfl rfl rfl rfl | exact Val.lenS rfl rfl rfl) ?_
    refine TL.vE (Val.gtr rfl rfl rfl) ?_
    refine TL.nil ?_
    show TC _ _ _ _ _ _
    refine TC.cond rfl (fun hb => ?_) (fun hb => ?_)
    · have hk63 := hb
      refine TC.seq ?_
      refine TC.region ?_
      refine TL.opK rfl fun K hK => ?_
      refine OpT.moveNil (.inr rfl) rfl 1 ?_
      simp only [nrm, Nat.reduceBEq, Nat.reduceBNe, reduceIte]
      refine hK _ ?_
      clear hK K
      refine TL.vE (Val.assign 1 rfl rfl) ?_
      refine TL.nil ?_
      show TC _ _ _ _ _ _
      refine TC.ret ?_
      exact ⟨.inr rfl, [_, _], [_, _], _, rfl, by decide, rfl, by simp [refV, refC, valC], rfl, (by rw [if_pos (by simp at hb; omega)] at hpe; simp only [RParts, hpe]; rfl)⟩
    have hk63 := hb
    refine TC.skip ?_
    show TC _ _ _ _ _ _
    refine TC.seq ?_
    refine TC.region ?_
    refine TL.vE (Val.move 1 rfl rfl) ?_
    refine TL.vE (Val.assign 1 rfl rfl) ?_
    refine TL.vE (Val.assign 1 rfl rfl) ?_
    refine TL.nil ?_
    show TC _ _ _ _ _ _
    refine TC.ret ?_
    exact ⟨.inr rfl, [_, _], [_, _], _, rfl, by decide, rfl, by simp [refV, refC, valC], rfl, (by rw [if_neg (by simp at hb; omega)] at hpe; simp only [RParts, hpe]; rfl)⟩
theorem spec_PartsOf_q {s : ByteArray} {q : Option (List ByteArray)} (hq : parts s = q) : Fun Tryz.prog 10 [S s] (RParts q) := hq ▸ spec_PartsOf_f s
theorem impl_PartsOf_q {s : ByteArray} {q : Option (List ByteArray)} (hq : parts s = q) : Fun Tryz.prog 15 [S s] (RParts q) := hq ▸ impl_PartsOf_f s
end Go.Proofs.YtfbjcdhphhfpfaaGreatDoor.T

