/- Marks of hosts. PRINTED by gen.py out of spec_host.py. -/
import Derived.Test.YtldollgpolklpaaGreatT3p
import Derived.Test.YtldollgpolklpaaGreatZdp
namespace Go.Proofs.YtldollgpolklpaaGreat.T
open Go
set_option linter.unusedVariables false
set_option linter.unusedSimpArgs false
set_option maxRecDepth 100000
set_option maxHeartbeats 4000000

theorem laws_markIntS_f (xs : List Int) (k : Int) (h1 : 0 ≤ k) (h2 : k + cntIntS xs ≤ 1000000000000000) (hmx : SmIntS xs) : Fun2 Tryz.prog 51 (⟨false, [.sl 1 (xs.map dInt)]⟩) [.one (.c (.ref ⟨1000000, [], 0⟩)), I k] (RP2 [.sl 1 ((mkIntS k xs).map dInt)] (I (k + cntIntS xs))) := by
  refine Fun2.of Tryz.func51 rfl (by simp [Tryz.ntmps51]) fun w g0 => ?_
  simp only [Tryz.ntmps51, List.length_cons, List.length_nil, Nat.reduceAdd, Nat.reduceSub, List.replicate, List.cons_append, List.nil_append, Hand.k, pinK, pinB, if_true, if_false, Bool.false_eq_true, List.map_cons, List.map_nil]
  refine TC.seq ?_
  refine TC.region ?_
  refine TL.vE (Val.assign 1 rfl rfl) ?_
  refine TL.nil ?_
  show TC _ _ _ _ _ _
  refine TC.seq ?_
  refine TC.seq ?_
  refine TC.region ?_
  refine TL.vE (Val.assign 1 rfl rfl) ?_
  refine TL.nil ?_
  show TC _ _ _ _ _ _
  refine TC.block ?_
  refine TC.loop (fun μ st => ∃ i : Nat, (i ≤ xs.length) ∧ μ = xs.length - i ∧ Can st ⟨[.one (.c (.ref ⟨1000000, [], 0⟩)), I (k + cntFold cntEInt (xs.take i)), .one .dead, .one .dead, .one .dead, I i, .one .dead, .one .dead, .one .dead, .one .dead, .one .dead, .one .dead, .one .dead, .one .dead, .one .dead, .one .dead, .one .dead, .one .dead, .one .dead], [(1000000, ⟨false, [.own (.sl 1 ((mix (mkIntS k xs) xs i).map dInt))]⟩)]⟩) (xs.length) ?_ fun μ st hI => ?_
  · refine ⟨0, by simp, by simp, ?_⟩
    exact Can.to (by repeat first | exact LessT.nil | refine LessT.drop ?_ | refine LessT.keep ?_ | refine LessT.eq (by simp [cntFold]) ?_) (.cons rfl (by simp [mix_zero]) .nil)
  · obtain ⟨i, hyp, rfl, hcan⟩ := hI
    refine TC.can hcan ?_
    clear hcan
    refine TC.seq ?_
    refine TC.seq ?_
    refine TC.region ?_
    refine TL.vE (Val.move 1 rfl rfl) ?_
    refine TL.vE (Val.move 1 rfl rfl) ?_
    refine TL.vE (by first | exact Val.len rfl rfl rfl rfl | exact Val.lenS rfl rfl rfl) ?_
    refine TL.vE (Val.lss rfl rfl rfl) ?_
    refine TL.nil ?_
    show TC _ _ _ _ _ _
    refine TC.cond rfl (fun hb => ?_) (fun hb => ?_)
    · have hk9 := hb
      refine TC.skip ?_
      show TC _ _ _ _ _ _
      refine TC.seq ?_
      refine TC.block ?_
      refine TC.seq ?_
      have hi : i < xs.length := by simpa [mix_len (mkIntS_len k xs)] using hb
      have hlen : xs.length ≤ 2097152 := Nat.le_trans (show xs.length ≤ 1048576 from hmx) (by decide)
      obtain ⟨x, hx⟩ := at_of (xs := xs) (k := i) hi
      have hcs := cntFold_step (c := cntEInt) hx
      have hc1 := cntFold_le cntEInt_nn xs (i + 1)
      have hc0 := cntFold_nn cntEInt_nn (xs.take i)
      have hcd : cntFold cntEInt xs = cntIntS xs := rfl
      have hg : ((mix (mkIntS k xs) xs i).map dInt)[i]? = some (dInt x) := by simp [List.getElem?_map, mix_get (mkIntS_len k xs), hx]
      have hs : ((mix (mkIntS k xs) xs i).map dInt).set i (dInt (mkEInt (k + cntFold cntEInt (xs.take i)) x)) = ((mix (mkIntS k xs) xs (i + 1)).map dInt) := by rw [← mix_set (mkIntS_len k xs) (mkFold_get mkEInt cntEInt k hx), List.map_set]
      have hLl : ((mix (mkIntS k xs) xs i).map dInt).length = xs.length := by simp [mix_len (mkIntS_len k xs)]
      generalize ((mix (mkIntS k xs) xs i).map dInt) = L at *
      simp only [dInt, mkEInt, cntEInt] at hg hs hcs
      generalize hKI : cntFold cntEInt (xs.take i) = m at *
      refine TC.region ?_
      refine TL.vE (Val.move 1 rfl rfl) ?_
      refine TL.vE (Val.move 1 rfl rfl) ?_
      refine TL.vE (Val.move 1 rfl rfl) ?_
      refine TL.vE (by exact Val.index rfl rfl rfl rfl rfl rfl (by omega) (by simp [hLl]; omega)) ?_
      refine TL.opK rfl fun K hK => ?_
      refine OpT.store (z := 1) rfl rfl rfl rfl (by simp [St.store1, St.storeAll, St.cellAt, St.isMem, St.root, St.wrote, St.kill, St.setRoot, TS.kill, TV.kill, C.kill, Rt.kill, hitR, hitP, shapeOf, setRow, setAt, rowAt, D.row, D.reRow, List.isPrefixOf, St.nest, St.kill, St.setRoot, St.root, List.getElem?_set_self', List.set_set, hg]; rfl) rfl (by simp [St.store1, St.storeAll, St.cellAt, St.isMem, St.root, St.wrote, St.kill, St.setRoot, TS.kill, TV.kill, C.kill, Rt.kill, hitR, hitP, shapeOf, setRow, setAt, rowAt, D.row, D.reRow, List.isPrefixOf, St.nest, St.kill, St.setRoot, St.root, List.getElem?_set_self', List.set_set, hg]; rfl) ?_
      simp only [nrm, Nat.reduceBEq, Nat.reduceBNe, reduceIte]
      refine hK _ ?_
      clear hK K
      refine TL.nil ?_
      show TC _ _ _ _ _ _
      refine TC.region ?_
      refine TL.vE (Val.move 1 rfl rfl) ?_
      refine TL.vE (Val.addO rfl rfl rfl) ?_
      refine TL.vE (Val.assign 1 rfl rfl) ?_
      refine TL.nil ?_
      show TC _ _ _ _ _ _
      refine TC.region ?_
      refine TL.vE (Val.move 1 rfl rfl) ?_
      refine TL.vE (Val.addO rfl rfl rfl) ?_
      refine TL.vE (Val.assign 1 rfl rfl) ?_
      refine TL.nil ?_
      first | refine Seq.normal ⟨_, ?_, i + 1, ?_, rfl, ?_⟩ | refine Seq.normal (Q := fun _ _ => True) ⟨_, ?_, i + 1, ?_, rfl, ?_⟩
      · omega
      · omega
      · exact Can.to (by repeat first | exact LessT.nil | refine LessT.drop ?_ | refine LessT.keep ?_ | refine LessT.eq (by first | rfl | (simp; done) | exact congrArg (fun z : Int => (I z : TS)) (by rw [hcs]; omega) | exact congrArg (fun z : Int => (I z : TS)) (by omega)) ?_) (.cons rfl (by simp [hs]) .nil)
    have hk9 := hb
    refine TC.exit ?_
    show TC _ _ _ _ _ _
    refine TC.seq ?_
    have hn : i = xs.length := (by simp [mix_len (mkIntS_len k xs)] at hb; omega)
    subst hn
    rw [mix_all (mkIntS_len k xs) (Nat.le_refl _), List.take_length]
    refine TC.region ?_
    refine TL.vE (Val.move 1 rfl rfl) ?_
    refine TL.vE (Val.assign 1 rfl rfl) ?_
    refine TL.nil ?_
    show TC _ _ _ _ _ _
    refine TC.ret ?_
    exact ⟨.inr rfl, [_], [_], _, [.sl 1 ((mkIntS k xs).map dInt)], rfl, by decide, rfl, by simp [refV, refC, valC, C.kill, hitR], rfl, rfl, by simp, rfl, ⟨rfl, rfl⟩⟩

theorem laws_markIntSS_f (xs : List (List Int)) (k : Int) (h1 : 0 ≤ k) (h2 : k + cntIntSS xs ≤ 1000000000000000) (hmx : SmIntSS xs) : Fun2 Tryz.prog 47 (⟨false, [.sl 1 (xs.map dIntS)]⟩) [.one (.c (.ref ⟨1000000, [], 0⟩)), I k] (RP2 [.sl 1 ((mkIntSS k xs).map dIntS)] (I (k + cntIntSS xs))) := by
  refine Fun2.of Tryz.func47 rfl (by simp [Tryz.ntmps47]) fun w g0 => ?_
  simp only [Tryz.ntmps47, List.length_cons, List.length_nil, Nat.reduceAdd, Nat.reduceSub, List.replicate, List.cons_append, List.nil_append, Hand.k, pinK, pinB, if_true, if_false, Bool.false_eq_true, List.map_cons, List.map_nil]
  refine TC.seq ?_
  refine TC.region ?_
  refine TL.vE (Val.assign 1 rfl rfl) ?_
  refine TL.nil ?_
  show TC _ _ _ _ _ _
  refine TC.seq ?_
  refine TC.seq ?_
  refine TC.region ?_
  refine TL.vE (Val.assign 1 rfl rfl) ?_
  refine TL.nil ?_
  show TC _ _ _ _ _ _
  refine TC.block ?_
  refine TC.loop (fun μ st => ∃ i : Nat, (i ≤ xs.length) ∧ μ = xs.length - i ∧ Can st ⟨[.one (.c (.ref ⟨1000000, [], 0⟩)), I (k + cntFold cntIntS (xs.take i)), .one .dead, .one .dead, .one .dead, I i, .one .dead, .one .dead, .one .dead, .one .dead, .one .dead, .one .dead, .one .dead, .one .dead, .one .dead, .one .dead, .one .dead, .one .dead, .one .dead], [(1000000, ⟨false, [.own (.sl 1 ((mix (mkIntSS k xs) xs i).map dIntS))]⟩)]⟩) (xs.length) ?_ fun μ st hI => ?_
  · refine ⟨0, by simp, by simp, ?_⟩
    exact Can.to (by repeat first | exact LessT.nil | refine LessT.drop ?_ | refine LessT.keep ?_ | refine LessT.eq (by simp [cntFold]) ?_) (.cons rfl (by simp [mix_zero]) .nil)
  · obtain ⟨i, hyp, rfl, hcan⟩ := hI
    refine TC.can hcan ?_
    clear hcan
    refine TC.seq ?_
    refine TC.seq ?_
    refine TC.region ?_
    refine TL.vE (Val.move 1 rfl rfl) ?_
    refine TL.vE (Val.move 1 rfl rfl) ?_
    refine TL.vE (by first | exact Val.len rfl rfl rfl rfl | exact Val.lenS rfl rfl rfl) ?_
    refine TL.vE (Val.lss rfl rfl rfl) ?_
    refine TL.nil ?_
    show TC _ _ _ _ _ _
    refine TC.cond rfl (fun hb => ?_) (fun hb => ?_)
    · have hk9 := hb
      refine TC.skip ?_
      show TC _ _ _ _ _ _
      refine TC.seq ?_
      refine TC.block ?_
      have hi : i < xs.length := by simpa [mix_len (mkIntSS_len k xs)] using hb
      have hlen : xs.length ≤ 2097152 := Nat.le_trans (show xs.length ≤ 1048576 from hmx.1) (by decide)
      obtain ⟨x, hx⟩ := at_of (xs := xs) (k := i) hi
      have hcs := cntFold_step (c := cntIntS) hx
      have hc1 := cntFold_le cntIntS_nn xs (i + 1)
      have hc0 := cntFold_nn cntIntS_nn (xs.take i)
      have hcd : cntFold cntIntS xs = cntIntSS xs := rfl
      have hsx : SmIntS x := hmx.2 x (List.mem_of_getElem? hx)
      have hn0 := cntIntS_nn x
      have hg : ((mix (mkIntSS k xs) xs i).map dIntS)[i]? = some (dIntS x) := by simp [List.getElem?_map, mix_get (mkIntSS_len k xs), hx]
      have hs : ((mix (mkIntSS k xs) xs i).map dIntS).set i (dIntS (mkIntS (k + cntFold cntIntS (xs.take i)) x)) = ((mix (mkIntSS k xs) xs (i + 1)).map dIntS) := by rw [← mix_set (mkIntSS_len k xs) (mkFold_get mkIntS cntIntS k hx), List.map_set]
      have hLl : ((mix (mkIntSS k xs) xs i).map dIntS).length = xs.length := by simp [mix_len (mkIntSS_len k xs)]
      generalize ((mix (mkIntSS k xs) xs i).map dIntS) = L at *
      simp only [dIntS] at hg hs
      generalize hKI : cntFold cntIntS (xs.take i) = m at *
      refine TC.region ?_
      refine TL.vE (Val.move 1 rfl rfl) ?_
      refine TL.vE (Val.move 1 rfl rfl) ?_
      refine TL.vE (by exact Val.index rfl rfl rfl rfl rfl rfl (by omega) (by simp [hLl]; omega)) ?_
      refine TL.valE rfl (by exact Val.load rfl rfl rfl (c := .own (.sl 1 (x.map dInt))) (by simp [St.store1, St.storeAll, St.cellAt, St.isMem, St.root, St.wrote, St.kill, St.setRoot, TS.kill, TV.kill, C.kill, Rt.kill, hitR, hitP, shapeOf, setRow, setAt, rowAt, D.row, D.reRow, List.isPrefixOf, St.nest, St.kill, St.setRoot, St.root, List.getElem?_set_self', List.set_set, hg]; done) rfl) (by simp only [nput, valC]; rfl) ?_
      refine TL.vE (Val.move 1 rfl rfl) ?_
      refine TL.callN (k1 := 1000000) (q0 := 0) (i0 := i) (j := 0) (yes_none rfl) rfl rfl rfl rfl rfl rfl (laws_markIntS_f x ((k + m)) (by omega) (by omega) hsx) rfl rfl (by simp [St.store1, St.storeAll, St.cellAt, St.isMem, St.root, St.wrote, St.kill, St.setRoot, TS.kill, TV.kill, C.kill, Rt.kill, hitR, hitP, shapeOf, setRow, setAt, rowAt, D.row, D.reRow, List.isPrefixOf, St.nest, St.kill, St.setRoot, St.root, List.getElem?_set_self', List.set_set, hg]; rfl) (by rfl) (by repeat first | exact .nil | refine GiveNs.cons (.ro _) ?_ | refine GiveNs.cons .it ?_) rfl (by simp [St.store1, St.storeAll, St.cellAt, St.isMem, St.root, St.wrote, St.kill, St.setRoot, TS.kill, TV.kill, C.kill, Rt.kill, hitR, hitP, shapeOf, setRow, setAt, rowAt, D.row, D.reRow, List.isPrefixOf, St.nest, St.kill, St.setRoot, St.root, List.getElem?_set_self', List.set_set, hg]; rfl) (by simp only [nput]; rfl) ?_
      refine TL.vE (Val.assign 1 rfl rfl) ?_
      refine TL.nil ?_
      show TC _ _ _ _ _ _
      refine TC.region ?_
      refine TL.vE (Val.move 1 rfl rfl) ?_
      refine TL.vE (Val.addO rfl rfl rfl) ?_
      refine TL.vE (Val.assign 1 rfl rfl) ?_
      refine TL.nil ?_
      first | refine Seq.normal ⟨_, ?_, i + 1, ?_, rfl, ?_⟩ | refine Seq.normal (Q := fun _ _ => True) ⟨_, ?_, i + 1, ?_, rfl, ?_⟩
      · omega
      · omega
      · exact Can.to (by repeat first | exact LessT.nil | refine LessT.drop ?_ | refine LessT.keep ?_ | refine LessT.eq (by first | rfl | (simp; done) | exact congrArg (fun z : Int => (I z : TS)) (by rw [hcs]; omega) | exact congrArg (fun z : Int => (I z : TS)) (by omega)) ?_) (.cons rfl (by simp [hs]) .nil)
    have hk9 := hb
    refine TC.exit ?_
    show TC _ _ _ _ _ _
    refine TC.seq ?_
    have hn : i = xs.length := (by simp [mix_len (mkIntSS_len k xs)] at hb; omega)
    subst hn
    rw [mix_all (mkIntSS_len k xs) (Nat.le_refl _), List.take_length]
    refine TC.region ?_
    refine TL.vE (Val.move 1 rfl rfl) ?_
    refine TL.vE (Val.assign 1 rfl rfl) ?_
    refine TL.nil ?_
    show TC _ _ _ _ _ _
    refine TC.ret ?_
    exact ⟨.inr rfl, [_], [_], _, [.sl 1 ((mkIntSS k xs).map dIntS)], rfl, by decide, rfl, by simp [refV, refC, valC, C.kill, hitR], rfl, rfl, by simp, rfl, ⟨rfl, rfl⟩⟩

theorem laws_markSlotS_f (xs : List VSlot) (k : Int) (h1 : 0 ≤ k) (h2 : k + cntSlotS xs ≤ 1000000000000000) (hmx : SmSlotS xs) : Fun2 Tryz.prog 95 (⟨false, [.sl 2 (xs.map dSlot)]⟩) [.one (.c (.ref ⟨1000000, [], 0⟩)), I k] (RP2 [.sl 2 ((mkSlotS k xs).map dSlot)] (I (k + cntSlotS xs))) := by
  refine Fun2.of Tryz.func95 rfl (by simp [Tryz.ntmps95]) fun w g0 => ?_
  simp only [Tryz.ntmps95, List.length_cons, List.length_nil, Nat.reduceAdd, Nat.reduceSub, List.replicate, List.cons_append, List.nil_append, Hand.k, pinK, pinB, if_true, if_false, Bool.false_eq_true, List.map_cons, List.map_nil]
  refine TC.seq ?_
  refine TC.region ?_
  refine TL.vE (Val.assign 1 rfl rfl) ?_
  refine TL.nil ?_
  show TC _ _ _ _ _ _
  refine TC.seq ?_
  refine TC.seq ?_
  refine TC.region ?_
  refine TL.vE (Val.assign 1 rfl rfl) ?_
  refine TL.nil ?_
  show TC _ _ _ _ _ _
  refine TC.block ?_
  refine TC.loop (fun μ st => ∃ i : Nat, (i ≤ xs.length) ∧ μ = xs.length - i ∧ Can st ⟨[.one (.c (.ref ⟨1000000, [], 0⟩)), I (k + cntFold cntESlot (xs.take i)), .one .dead, .one .dead, .one .dead, I i, .one .dead, .one .dead, .one .dead, .one .dead, .one .dead, .one .dead, .one .dead, .one .dead, .one .dead, .one .dead, .one .dead, .one .dead, .one .dead, .one .dead, .one .dead, .one .dead, .one .dead, .one .dead, .one .dead, .one .dead, .one .dead], [(1000000, ⟨false, [.own (.sl 2 ((mix (mkSlotS k xs) xs i).map dSlot))]⟩)]⟩) (xs.length) ?_ fun μ st hI => ?_
  · refine ⟨0, by simp, by simp, ?_⟩
    exact Can.to (by repeat first | exact LessT.nil | refine LessT.drop ?_ | refine LessT.keep ?_ | refine LessT.eq (by simp [cntFold]) ?_) (.cons rfl (by simp [mix_zero]) .nil)
  · obtain ⟨i, hyp, rfl, hcan⟩ := hI
    refine TC.can hcan ?_
    clear hcan
    refine TC.seq ?_
    refine TC.seq ?_
    refine TC.region ?_
    refine TL.vE (Val.move 1 rfl rfl) ?_
    refine TL.vE (Val.move 1 rfl rfl) ?_
    refine TL.vE (by first | exact Val.len rfl rfl rfl rfl | exact Val.lenS rfl rfl rfl) ?_
    refine TL.vE (Val.lss rfl rfl rfl) ?_
    refine TL.nil ?_
    show TC _ _ _ _ _ _
    refine TC.cond rfl (fun hb => ?_) (fun hb => ?_)
    · have hk9 := hb
      refine TC.skip ?_
      show TC _ _ _ _ _ _
      refine TC.seq ?_
      refine TC.block ?_
      refine TC.seq ?_
      have hi : i < xs.length := by simpa [mix_len (mkSlotS_len k xs)] using hb
      have hlen : xs.length ≤ 2097152 := Nat.le_trans (show xs.length ≤ 1048576 from hmx) (by decide)
      obtain ⟨x, hx⟩ := at_of (xs := xs) (k := i) hi
      have hcs := cntFold_step (c := cntESlot) hx
      have hc1 := cntFold_le cntESlot_nn xs (i + 1)
      have hc0 := cntFold_nn cntESlot_nn (xs.take i)
      have hcd : cntFold cntESlot xs = cntSlotS xs := rfl
      have hg : ((mix (mkSlotS k xs) xs i).map dSlot)[i]? = some (dSlot x) := by simp [List.getElem?_map, mix_get (mkSlotS_len k xs), hx]
      have hs : ((mix (mkSlotS k xs) xs i).map dSlot).set i (dSlot (mkESlot (k + cntFold cntESlot (xs.take i)) x)) = ((mix (mkSlotS k xs) xs (i + 1)).map dSlot) := by rw [← mix_set (mkSlotS_len k xs) (mkFold_get mkESlot cntESlot k hx), List.map_set]
      have hLl : ((mix (mkSlotS k xs) xs i).map dSlot).length = xs.length := by simp [mix_len (mkSlotS_len k xs)]
      generalize ((mix (mkSlotS k xs) xs i).map dSlot) = L at *
      simp only [dSlot, rSlot, mkESlot, cntESlot] at hg hs hcs
      generalize hKI : cntFold cntESlot (xs.take i) = m at *
      refine TC.region ?_
      refine TL.vE (Val.move 1 rfl rfl) ?_
      refine TL.vE (Val.move 1 rfl rfl) ?_
      refine TL.vE (Val.move 1 rfl rfl) ?_
      refine TL.vE (by exact Val.index rfl rfl rfl rfl rfl rfl (by omega) (by simp [hLl]; omega)) ?_
      refine TL.fld ?_
      refine TL.opK rfl fun K hK => ?_
      refine OpT.store (z := 1) rfl rfl rfl rfl (by simp [St.store1, St.storeAll, St.cellAt, St.isMem, St.root, St.wrote, St.kill, St.setRoot, TS.kill, TV.kill, C.kill, Rt.kill, hitR, hitP, shapeOf, setRow, setAt, rowAt, D.row, D.reRow, List.isPrefixOf, St.nest, St.kill, St.setRoot, St.root, List.getElem?_set_self', List.set_set, hg]; rfl) rfl (by simp [St.store1, St.storeAll, St.cellAt, St.isMem, St.root, St.wrote, St.kill, St.setRoot, TS.kill, TV.kill, C.kill, Rt.kill, hitR, hitP, shapeOf, setRow, setAt, rowAt, D.row, D.reRow, List.isPrefixOf, St.nest, St.kill, St.setRoot, St.root, List.getElem?_set_self', List.set_set, hg]; rfl) ?_
      simp only [nrm, Nat.reduceBEq, Nat.reduceBNe, reduceIte]
      refine hK _ ?_
      clear hK K
      refine TL.nil ?_
      show TC _ _ _ _ _ _
      refine TC.seq ?_
      refine TC.region ?_
      refine TL.vE (Val.move 1 rfl rfl) ?_
      refine TL.vE (Val.addO rfl rfl rfl) ?_
      refine TL.vE (Val.assign 1 rfl rfl) ?_
      refine TL.nil ?_
      show TC _ _ _ _ _ _
      refine TC.seq ?_
      refine TC.region ?_
      refine TL.vE (Val.move 1 rfl rfl) ?_
      refine TL.vE (Val.move 1 rfl rfl) ?_
      refine TL.vE (Val.move 1 rfl rfl) ?_
      refine TL.vE (by exact Val.index rfl rfl rfl rfl rfl rfl (by omega) (by simp [hLl]; omega)) ?_
      refine TL.fld ?_
      refine TL.opK rfl fun K hK => ?_
      refine OpT.store (z := 1) rfl rfl rfl rfl (by simp [St.store1, St.storeAll, St.cellAt, St.isMem, St.root, St.wrote, St.kill, St.setRoot, TS.kill, TV.kill, C.kill, Rt.kill, hitR, hitP, shapeOf, setRow, setAt, rowAt, D.row, D.reRow, List.isPrefixOf, St.nest, St.kill, St.setRoot, St.root, List.getElem?_set_self', List.set_set, hg]; rfl) rfl (by simp [St.store1, St.storeAll, St.cellAt, St.isMem, St.root, St.wrote, St.kill, St.setRoot, TS.kill, TV.kill, C.kill, Rt.kill, hitR, hitP, shapeOf, setRow, setAt, rowAt, D.row, D.reRow, List.isPrefixOf, St.nest, St.kill, St.setRoot, St.root, List.getElem?_set_self', List.set_set, hg]; rfl) ?_
      simp only [nrm, Nat.reduceBEq, Nat.reduceBNe, reduceIte]
      refine hK _ ?_
      clear hK K
      refine TL.nil ?_
      show TC _ _ _ _ _ _
      refine TC.region ?_
      refine TL.vE (Val.move 1 rfl rfl) ?_
      refine TL.vE (Val.addO rfl rfl rfl) ?_
      refine TL.vE (Val.assign 1 rfl rfl) ?_
      refine TL.nil ?_
      show TC _ _ _ _ _ _
      refine TC.region ?_
      refine TL.vE (Val.move 1 rfl rfl) ?_
      refine TL.vE (Val.addO rfl rfl rfl) ?_
      refine TL.vE (Val.assign 1 rfl rfl) ?_
      refine TL.nil ?_
      first | refine Seq.normal ⟨_, ?_, i + 1, ?_, rfl, ?_⟩ | refine Seq.normal (Q := fun _ _ => True) ⟨_, ?_, i + 1, ?_, rfl, ?_⟩
      · omega
      · omega
      · exact Can.to (by repeat first | exact LessT.nil | refine LessT.drop ?_ | refine LessT.keep ?_ | refine LessT.eq (by first | rfl | (simp; done) | exact congrArg (fun z : Int => (I z : TS)) (by rw [hcs]; omega) | exact congrArg (fun z : Int => (I z : TS)) (by omega)) ?_) (.cons rfl (by simp [hs]) .nil)
    have hk9 := hb
    refine TC.exit ?_
    show TC _ _ _ _ _ _
    refine TC.seq ?_
    have hn : i = xs.length := (by simp [mix_len (mkSlotS_len k xs)] at hb; omega)
    subst hn
    rw [mix_all (mkSlotS_len k xs) (Nat.le_refl _), List.take_length]
    refine TC.region ?_
    refine TL.vE (Val.move 1 rfl rfl) ?_
    refine TL.vE (Val.assign 1 rfl rfl) ?_
    refine TL.nil ?_
    show TC _ _ _ _ _ _
    refine TC.ret ?_
    exact ⟨.inr rfl, [_], [_], _, [.sl 2 ((mkSlotS k xs).map dSlot)], rfl, by decide, rfl, by simp [refV, refC, valC, C.kill, hitR], rfl, rfl, by simp, rfl, ⟨rfl, rfl⟩⟩

theorem laws_markBoolS_f (xs : List Bool) (k : Int) (h1 : 0 ≤ k) (h2 : k + cntBoolS xs ≤ 1000000000000000) (hmx : SmBoolS xs) : Fun2 Tryz.prog 96 (⟨false, [.sl 1 (xs.map dBool)]⟩) [.one (.c (.ref ⟨1000000, [], 0⟩)), I k] (RP2 [.sl 1 ((mkBoolS k xs).map dBool)] (I (k + cntBoolS xs))) := by
  refine Fun2.of Tryz.func96 rfl (by simp [Tryz.ntmps96]) fun w g0 => ?_
  simp only [Tryz.ntmps96, List.length_cons, List.length_nil, Nat.reduceAdd, Nat.reduceSub, List.replicate, List.cons_append, List.nil_append, Hand.k, pinK, pinB, if_true, if_false, Bool.false_eq_true, List.map_cons, List.map_nil]
  refine TC.seq ?_
  refine TC.region ?_
  refine TL.vE (Val.assign 1 rfl rfl) ?_
  refine TL.nil ?_
  show TC _ _ _ _ _ _
  refine TC.seq ?_
  refine TC.seq ?_
  refine TC.region ?_
  refine TL.vE (Val.assign 1 rfl rfl) ?_
  refine TL.nil ?_
  show TC _ _ _ _ _ _
  refine TC.block ?_
  refine TC.loop (fun μ st => ∃ i : Nat, (i ≤ xs.length) ∧ μ = xs.length - i ∧ Can st ⟨[.one (.c (.ref ⟨1000000, [], 0⟩)), I (k + cntFold cntEBool (xs.take i)), .one .dead, .one .dead, .one .dead, I i, .one .dead, .one .dead, .one .dead, .one .dead, .one .dead, .one .dead, .one .dead, .one .dead, .one .dead, .one .dead, .one .dead, .one .dead, .one .dead, .one .dead, .one .dead], [(1000000, ⟨false, [.own (.sl 1 ((mix (mkBoolS k xs) xs i).map dBool))]⟩)]⟩) (xs.length) ?_ fun μ st hI => ?_
  · refine ⟨0, by simp, by simp, ?_⟩
    exact Can.to (by repeat first | exact LessT.nil | refine LessT.drop ?_ | refine LessT.keep ?_ | refine LessT.eq (by simp [cntFold]) ?_) (.cons rfl (by simp [mix_zero]) .nil)
  · obtain ⟨i, hyp, rfl, hcan⟩ := hI
    refine TC.can hcan ?_
    clear hcan
    refine TC.seq ?_
    refine TC.seq ?_
    refine TC.region ?_
    refine TL.vE (Val.move 1 rfl rfl) ?_
    refine TL.vE (Val.move 1 rfl rfl) ?_
    refine TL.vE (by first | exact Val.len rfl rfl rfl rfl | exact Val.lenS rfl rfl rfl) ?_
    refine TL.vE (Val.lss rfl rfl rfl) ?_
    refine TL.nil ?_
    show TC _ _ _ _ _ _
    refine TC.cond rfl (fun hb => ?_) (fun hb => ?_)
    · have hk9 := hb
      refine TC.skip ?_
      show TC _ _ _ _ _ _
      refine TC.seq ?_
      refine TC.block ?_
      refine TC.seq ?_
      have hi : i < xs.length := by simpa [mix_len (mkBoolS_len k xs)] using hb
      have hlen : xs.length ≤ 2097152 := Nat.le_trans (show xs.length ≤ 1048576 from hmx) (by decide)
      obtain ⟨x, hx⟩ := at_of (xs := xs) (k := i) hi
      have hcs := cntFold_step (c := cntEBool) hx
      have hc1 := cntFold_le cntEBool_nn xs (i + 1)
      have hc0 := cntFold_nn cntEBool_nn (xs.take i)
      have hcd : cntFold cntEBool xs = cntBoolS xs := rfl
      have hg : ((mix (mkBoolS k xs) xs i).map dBool)[i]? = some (dBool x) := by simp [List.getElem?_map, mix_get (mkBoolS_len k xs), hx]
      have hs : ((mix (mkBoolS k xs) xs i).map dBool).set i (dBool (mkEBool (k + cntFold cntEBool (xs.take i)) x)) = ((mix (mkBoolS k xs) xs (i + 1)).map dBool) := by rw [← mix_set (mkBoolS_len k xs) (mkFold_get mkEBool cntEBool k hx), List.map_set]
      have hLl : ((mix (mkBoolS k xs) xs i).map dBool).length = xs.length := by simp [mix_len (mkBoolS_len k xs)]
      generalize ((mix (mkBoolS k xs) xs i).map dBool) = L at *
      simp only [dBool, mkEBool, cntEBool] at hg hs hcs
      generalize hKI : cntFold cntEBool (xs.take i) = m at *
      refine TC.region ?_
      refine TL.vE (Val.move 1 rfl rfl) ?_
      refine TL.vE (Val.move 1 rfl rfl) ?_
      refine TL.vE (Val.move 1 rfl rfl) ?_
      refine TL.vE (Val.rem rfl rfl rfl (by decide)) ?_
      refine TL.vE (Val.eql rfl rfl rfl) ?_
      refine TL.vE (by exact Val.index rfl rfl rfl rfl rfl rfl (by omega) (by simp [hLl]; omega)) ?_
      refine TL.opK rfl fun K hK => ?_
      refine OpT.store (z := 1) rfl rfl rfl rfl (by simp [St.store1, St.storeAll, St.cellAt, St.isMem, St.root, St.wrote, St.kill, St.setRoot, TS.kill, TV.kill, C.kill, Rt.kill, hitR, hitP, shapeOf, setRow, setAt, rowAt, D.row, D.reRow, List.isPrefixOf, St.nest, St.kill, St.setRoot, St.root, List.getElem?_set_self', List.set_set, hg]; rfl) rfl (by simp [St.store1, St.storeAll, St.cellAt, St.isMem, St.root, St.wrote, St.kill, St.setRoot, TS.kill, TV.kill, C.kill, Rt.kill, hitR, hitP, shapeOf, setRow, setAt, rowAt, D.row, D.reRow, List.isPrefixOf, St.nest, St.kill, St.setRoot, St.root, List.getElem?_set_self', List.set_set, hg]; rfl) ?_
      simp only [nrm, Nat.reduceBEq, Nat.reduceBNe, reduceIte]
      refine hK _ ?_
      clear hK K
      refine TL.nil ?_
      show TC _ _ _ _ _ _
      refine TC.region ?_
      refine TL.vE (Val.move 1 rfl rfl) ?_
      refine TL.vE (Val.addO rfl rfl rfl) ?_
      refine TL.vE (Val.assign 1 rfl rfl) ?_
      refine TL.nil ?_
      show TC _ _ _ _ _ _
      refine TC.region ?_
      refine TL.vE (Val.move 1 rfl rfl) ?_
      refine TL.vE (Val.addO rfl rfl rfl) ?_
      refine TL.vE (Val.assign 1 rfl rfl) ?_
      refine TL.nil ?_
      first | refine Seq.normal ⟨_, ?_, i + 1, ?_, rfl, ?_⟩ | refine Seq.normal (Q := fun _ _ => True) ⟨_, ?_, i + 1, ?_, rfl, ?_⟩
      · omega
      · omega
      · exact Can.to (by repeat first | exact LessT.nil | refine LessT.drop ?_ | refine LessT.keep ?_ | refine LessT.eq (by first | rfl | (simp; done) | exact congrArg (fun z : Int => (I z : TS)) (by rw [hcs]; omega) | exact congrArg (fun z : Int => (I z : TS)) (by omega)) ?_) (.cons rfl (by simp [hs]) .nil)
    have hk9 := hb
    refine TC.exit ?_
    show TC _ _ _ _ _ _
    refine TC.seq ?_
    have hn : i = xs.length := (by simp [mix_len (mkBoolS_len k xs)] at hb; omega)
    subst hn
    rw [mix_all (mkBoolS_len k xs) (Nat.le_refl _), List.take_length]
    refine TC.region ?_
    refine TL.vE (Val.move 1 rfl rfl) ?_
    refine TL.vE (Val.assign 1 rfl rfl) ?_
    refine TL.nil ?_
    show TC _ _ _ _ _ _
    refine TC.ret ?_
    exact ⟨.inr rfl, [_], [_], _, [.sl 1 ((mkBoolS k xs).map dBool)], rfl, by decide, rfl, by simp [refV, refC, valC, C.kill, hitR], rfl, rfl, by simp, rfl, ⟨rfl, rfl⟩⟩

theorem laws_markInsS_f (xs : List VIns) (k : Int) (h1 : 0 ≤ k) (h2 : k + cntInsS xs ≤ 1000000000000000) (hmx : SmInsS xs) : Fun2 Tryz.prog 155 (⟨false, [.sl 2 (xs.map dIns)]⟩) [.one (.c (.ref ⟨1000000, [], 0⟩)), I k] (RP2 [.sl 2 ((mkInsS k xs).map dIns)] (I (k + cntInsS xs))) := by
  refine Fun2.of Tryz.func155 rfl (by simp [Tryz.ntmps155]) fun w g0 => ?_
  simp only [Tryz.ntmps155, List.length_cons, List.length_nil, Nat.reduceAdd, Nat.reduceSub, List.replicate, List.cons_append, List.nil_append, Hand.k, pinK, pinB, if_true, if_false, Bool.false_eq_true, List.map_cons, List.map_nil]
  refine TC.seq ?_
  refine TC.region ?_
  refine TL.vE (Val.assign 1 rfl rfl) ?_
  refine TL.nil ?_
  show TC _ _ _ _ _ _
  refine TC.seq ?_
  refine TC.seq ?_
  refine TC.region ?_
  refine TL.vE (Val.assign 1 rfl rfl) ?_
  refine TL.nil ?_
  show TC _ _ _ _ _ _
  refine TC.block ?_
  refine TC.loop (fun μ st => ∃ i : Nat, (i ≤ xs.length) ∧ μ = xs.length - i ∧ Can st ⟨[.one (.c (.ref ⟨1000000, [], 0⟩)), I (k + cntFold cntEIns (xs.take i)), .one .dead, .one .dead, .one .dead, I i, .one .dead, .one .dead, .one .dead, .one .dead, .one .dead, .one .dead, .one .dead, .one .dead, .one .dead, .one .dead, .one .dead, .one .dead, .one .dead, .one .dead, .one .dead, .one .dead, .one .dead, .one .dead, .one .dead, .one .dead, .one .dead], [(1000000, ⟨false, [.own (.sl 2 ((mix (mkInsS k xs) xs i).map dIns))]⟩)]⟩) (xs.length) ?_ fun μ st hI => ?_
  · refine ⟨0, by simp, by simp, ?_⟩
    exact Can.to (by repeat first | exact LessT.nil | refine LessT.drop ?_ | refine LessT.keep ?_ | refine LessT.eq (by simp [cntFold]) ?_) (.cons rfl (by simp [mix_zero]) .nil)
  · obtain ⟨i, hyp, rfl, hcan⟩ := hI
    refine TC.can hcan ?_
    clear hcan
    refine TC.seq ?_
    refine TC.seq ?_
    refine TC.region ?_
    refine TL.vE (Val.move 1 rfl rfl) ?_
    refine TL.vE (Val.move 1 rfl rfl) ?_
    refine TL.vE (by first | exact Val.len rfl rfl rfl rfl | exact Val.lenS rfl rfl rfl) ?_
    refine TL.vE (Val.lss rfl rfl rfl) ?_
    refine TL.nil ?_
    show TC _ _ _ _ _ _
    refine TC.cond rfl (fun hb => ?_) (fun hb => ?_)
    · have hk9 := hb
      refine TC.skip ?_
      show TC _ _ _ _ _ _
      refine TC.seq ?_
      refine TC.block ?_
      refine TC.seq ?_
      have hi : i < xs.length := by simpa [mix_len (mkInsS_len k xs)] using hb
      have hlen : xs.length ≤ 2097152 := Nat.le_trans (show xs.length ≤ 1048576 from hmx) (by decide)
      obtain ⟨x, hx⟩ := at_of (xs := xs) (k := i) hi
      have hcs := cntFold_step (c := cntEIns) hx
      have hc1 := cntFold_le cntEIns_nn xs (i + 1)
      have hc0 := cntFold_nn cntEIns_nn (xs.take i)
      have hcd : cntFold cntEIns xs = cntInsS xs := rfl
      have hg : ((mix (mkInsS k xs) xs i).map dIns)[i]? = some (dIns x) := by simp [List.getElem?_map, mix_get (mkInsS_len k xs), hx]
      have hs : ((mix (mkInsS k xs) xs i).map dIns).set i (dIns (mkEIns (k + cntFold cntEIns (xs.take i)) x)) = ((mix (mkInsS k xs) xs (i + 1)).map dIns) := by rw [← mix_set (mkInsS_len k xs) (mkFold_get mkEIns cntEIns k hx), List.map_set]
      have hLl : ((mix (mkInsS k xs) xs i).map dIns).length = xs.length := by simp [mix_len (mkInsS_len k xs)]
      generalize ((mix (mkInsS k xs) xs i).map dIns) = L at *
      simp only [dIns, rIns, mkEIns, cntEIns] at hg hs hcs
      generalize hKI : cntFold cntEIns (xs.take i) = m at *
      refine TC.region ?_
      refine TL.vE (Val.move 1 rfl rfl) ?_
      refine TL.vE (Val.move 1 rfl rfl) ?_
      refine TL.vE (Val.move 1 rfl rfl) ?_
      refine TL.vE (by exact Val.index rfl rfl rfl rfl rfl rfl (by omega) (by simp [hLl]; omega)) ?_
      refine TL.fld ?_
      refine TL.opK rfl fun K hK => ?_
      refine OpT.store (z := 1) rfl rfl rfl rfl (by simp [St.store1, St.storeAll, St.cellAt, St.isMem, St.root, St.wrote, St.kill, St.setRoot, TS.kill, TV.kill, C.kill, Rt.kill, hitR, hitP, shapeOf, setRow, setAt, rowAt, D.row, D.reRow, List.isPrefixOf, St.nest, St.kill, St.setRoot, St.root, List.getElem?_set_self', List.set_set, hg]; rfl) rfl (by simp [St.store1, St.storeAll, St.cellAt, St.isMem, St.root, St.wrote, St.kill, St.setRoot, TS.kill, TV.kill, C.kill, Rt.kill, hitR, hitP, shapeOf, setRow, setAt, rowAt, D.row, D.reRow, List.isPrefixOf, St.nest, St.kill, St.setRoot, St.root, List.getElem?_set_self', List.set_set, hg]; rfl) ?_
      simp only [nrm, Nat.reduceBEq, Nat.reduceBNe, reduceIte]
      refine hK _ ?_
      clear hK K
      refine TL.nil ?_
      show TC _ _ _ _ _ _
      refine TC.seq ?_
      refine TC.region ?_
      refine TL.vE (Val.move 1 rfl rfl) ?_
      refine TL.vE (Val.addO rfl rfl rfl) ?_
      refine TL.vE (Val.assign 1 rfl rfl) ?_
      refine TL.nil ?_
      show TC _ _ _ _ _ _
      refine TC.seq ?_
      refine TC.region ?_
      refine TL.vE (Val.move 1 rfl rfl) ?_
      refine TL.vE (Val.move 1 rfl rfl) ?_
      refine TL.vE (Val.move 1 rfl rfl) ?_
      refine TL.vE (by exact Val.index rfl rfl rfl rfl rfl rfl (by omega) (by simp [hLl]; omega)) ?_
      refine TL.fld ?_
      refine TL.opK rfl fun K hK => ?_
      refine OpT.store (z := 1) rfl rfl rfl rfl (by simp [St.store1, St.storeAll, St.cellAt, St.isMem, St.root, St.wrote, St.kill, St.setRoot, TS.kill, TV.kill, C.kill, Rt.kill, hitR, hitP, shapeOf, setRow, setAt, rowAt, D.row, D.reRow, List.isPrefixOf, St.nest, St.kill, St.setRoot, St.root, List.getElem?_set_self', List.set_set, hg]; rfl) rfl (by simp [St.store1, St.storeAll, St.cellAt, St.isMem, St.root, St.wrote, St.kill, St.setRoot, TS.kill, TV.kill, C.kill, Rt.kill, hitR, hitP, shapeOf, setRow, setAt, rowAt, D.row, D.reRow, List.isPrefixOf, St.nest, St.kill, St.setRoot, St.root, List.getElem?_set_self', List.set_set, hg]; rfl) ?_
      simp only [nrm, Nat.reduceBEq, Nat.reduceBNe, reduceIte]
      refine hK _ ?_
      clear hK K
      refine TL.nil ?_
      show TC _ _ _ _ _ _
      refine TC.region ?_
      refine TL.vE (Val.move 1 rfl rfl) ?_
      refine TL.vE (Val.addO rfl rfl rfl) ?_
      refine TL.vE (Val.assign 1 rfl rfl) ?_
      refine TL.nil ?_
      show TC _ _ _ _ _ _
      refine TC.region ?_
      refine TL.vE (Val.move 1 rfl rfl) ?_
      refine TL.vE (Val.addO rfl rfl rfl) ?_
      refine TL.vE (Val.assign 1 rfl rfl) ?_
      refine TL.nil ?_
      first | refine Seq.normal ⟨_, ?_, i + 1, ?_, rfl, ?_⟩ | refine Seq.normal (Q := fun _ _ => True) ⟨_, ?_, i + 1, ?_, rfl, ?_⟩
      · omega
      · omega
      · exact Can.to (by repeat first | exact LessT.nil | refine LessT.drop ?_ | refine LessT.keep ?_ | refine LessT.eq (by first | rfl | (simp; done) | exact congrArg (fun z : Int => (I z : TS)) (by rw [hcs]; omega) | exact congrArg (fun z : Int => (I z : TS)) (by omega)) ?_) (.cons rfl (by simp [hs]) .nil)
    have hk9 := hb
    refine TC.exit ?_
    show TC _ _ _ _ _ _
    refine TC.seq ?_
    have hn : i = xs.length := (by simp [mix_len (mkInsS_len k xs)] at hb; omega)
    subst hn
    rw [mix_all (mkInsS_len k xs) (Nat.le_refl _), List.take_length]
    refine TC.region ?_
    refine TL.vE (Val.move 1 rfl rfl) ?_
    refine TL.vE (Val.assign 1 rfl rfl) ?_
    refine TL.nil ?_
    show TC _ _ _ _ _ _
    refine TC.ret ?_
    exact ⟨.inr rfl, [_], [_], _, [.sl 2 ((mkInsS k xs).map dIns)], rfl, by decide, rfl, by simp [refV, refC, valC, C.kill, hitR], rfl, rfl, by simp, rfl, ⟨rfl, rfl⟩⟩

theorem laws_markGuestS_f (xs : List VGuest) (k : Int) (h1 : 0 ≤ k) (h2 : k + cntGuestS xs ≤ 1000000000000000) (hmx : SmGuestS xs) : Fun2 Tryz.prog 97 (⟨false, [.sl 15 (xs.map dGuest)]⟩) [.one (.c (.ref ⟨1000000, [], 0⟩)), I k] (RP2 [.sl 15 ((mkGuestS k xs).map dGuest)] (I (k + cntGuestS xs))) := by
  refine Fun2.of Tryz.func97 rfl (by simp [Tryz.ntmps97]) fun w g0 => ?_
  simp only [Tryz.ntmps97, List.length_cons, List.length_nil, Nat.reduceAdd, Nat.reduceSub, List.replicate, List.cons_append, List.nil_append, Hand.k, pinK, pinB, if_true, if_false, Bool.false_eq_true, List.map_cons, List.map_nil]
  refine TC.seq ?_
  refine TC.region ?_
  refine TL.vE (Val.assign 1 rfl rfl) ?_
  refine TL.nil ?_
  show TC _ _ _ _ _ _
  refine TC.seq ?_
  refine TC.seq ?_
  refine TC.region ?_
  refine TL.vE (Val.assign 1 rfl rfl) ?_
  refine TL.nil ?_
  show TC _ _ _ _ _ _
  refine TC.block ?_
  refine TC.loop (fun μ st => ∃ i : Nat, (i ≤ xs.length) ∧ μ = xs.length - i ∧ Can st ⟨[.one (.c (.ref ⟨1000000, [], 0⟩)), I (k + cntFold cntEGuest (xs.take i)), .one .dead, .one .dead, .one .dead, I i, .one .dead, .one .dead, .one .dead, .one .dead, .one .dead, .one .dead, .one .dead, .one .dead, .one .dead, .one .dead, .one .dead, .one .dead, .one .dead, .one .dead, .one .dead, .one .dead, .one .dead, .one .dead, .one .dead, .one .dead, .one .dead, .one .dead, .one .dead, .one .dead, .one .dead, .one .dead, .one .dead, .one .dead, .one .dead, .one .dead, .one .dead, .one .dead, .one .dead, .one .dead, .one .dead, .one .dead, .one .dead, .one .dead, .one .dead, .one .dead, .one .dead, .one .dead, .one .dead, .one .dead, .one .dead, .one .dead, .one .dead, .one .dead, .one .dead, .one .dead, .one .dead, .one .dead, .one .dead, .one .dead, .one .dead, .one .dead, .one .dead, .one .dead, .one .dead, .one .dead, .one .dead, .one .dead, .one .dead, .one .dead, .one .dead, .one .dead, .one .dead, .one .dead, .one .dead, .one .dead, .one .dead, .one .dead, .one .dead, .one .dead, .one .dead, .one .dead, .one .dead, .one .dead, .one .dead, .one .dead, .one .dead, .one .dead, .one .dead, .one .dead, .one .dead, .one .dead, .one .dead, .one .dead, .one .dead, .one .dead, .one .dead, .one .dead, .one .dead, .one .dead, .one .dead, .one .dead, .one .dead, .one .dead, .one .dead, .one .dead, .one .dead, .one .dead, .one .dead, .one .dead, .one .dead, .one .dead, .one .dead, .one .dead, .one .dead, .one .dead, .one .dead, .one .dead, .one .dead, .one .dead, .one .dead, .one .dead, .one .dead, .one .dead, .one .dead, .one .dead, .one .dead, .one .dead, .one .dead, .one .dead, .one .dead], [(1000000, ⟨false, [.own (.sl 15 ((mix (mkGuestS k xs) xs i).map dGuest))]⟩)]⟩) (xs.length) ?_ fun μ st hI => ?_
  · refine ⟨0, by simp, by simp, ?_⟩
    exact Can.to (by repeat first | exact LessT.nil | refine LessT.drop ?_ | refine LessT.keep ?_ | refine LessT.eq (by simp [cntFold]) ?_) (.cons rfl (by simp [mix_zero]) .nil)
  · obtain ⟨i, hyp, rfl, hcan⟩ := hI
    refine TC.can hcan ?_
    clear hcan
    refine TC.seq ?_
    refine TC.seq ?_
    refine TC.region ?_
    refine TL.vE (Val.move 1 rfl rfl) ?_
    refine TL.vE (Val.move 1 rfl rfl) ?_
    refine TL.vE (by first | exact Val.len rfl rfl rfl rfl | exact Val.lenS rfl rfl rfl) ?_
    refine TL.vE (Val.lss rfl rfl rfl) ?_
    refine TL.nil ?_
    show TC _ _ _ _ _ _
    refine TC.cond rfl (fun hb => ?_) (fun hb => ?_)
    · have hk9 := hb
      refine TC.skip ?_
      show TC _ _ _ _ _ _
      refine TC.seq ?_
      refine TC.block ?_
      refine TC.seq ?_
      have hi : i < xs.length := by simpa [mix_len (mkGuestS_len k xs)] using hb
      have hlen : xs.length ≤ 2097152 := Nat.le_trans (show xs.length ≤ 1048576 from hmx.1) (by decide)
      obtain ⟨x, hx⟩ := at_of (xs := xs) (k := i) hi
      have hcs := cntFold_step (c := cntEGuest) hx
      have hc1 := cntFold_le cntEGuest_nn xs (i + 1)
      have hc0 := cntFold_nn cntEGuest_nn (xs.take i)
      have hcd : cntFold cntEGuest xs = cntGuestS xs := rfl
      have hsx : SmGuest x := hmx.2 x (List.mem_of_getElem? hx)
      have hn0 := cntInsS_nn x.Prog
      have hn1 := cntSlotS_nn x.Written
      have hn2 := cntSlotS_nn x.Live
      have hn3 := cntIntS_nn x.Seen
      have hg : ((mix (mkGuestS k xs) xs i).map dGuest)[i]? = some (dGuest x) := by simp [List.getElem?_map, mix_get (mkGuestS_len k xs), hx]
      have hs : ((mix (mkGuestS k xs) xs i).map dGuest).set i (dGuest (mkEGuest (k + cntFold cntEGuest (xs.take i)) x)) = ((mix (mkGuestS k xs) xs (i + 1)).map dGuest) := by rw [← mix_set (mkGuestS_len k xs) (mkFold_get mkEGuest cntEGuest k hx), List.map_set]
      have hLl : ((mix (mkGuestS k xs) xs i).map dGuest).length = xs.length := by simp [mix_len (mkGuestS_len k xs)]
      generalize ((mix (mkGuestS k xs) xs i).map dGuest) = L at *
      simp only [dGuest, rGuest, mkEGuest, cntEGuest] at hg hs hcs
      generalize hKI : cntFold cntEGuest (xs.take i) = m at *
      refine TC.region ?_
      refine TL.vE (Val.move 1 rfl rfl) ?_
      refine TL.vE (Val.move 1 rfl rfl) ?_
      refine TL.vE (by exact Val.index rfl rfl rfl rfl rfl rfl (by omega) (by simp [hLl]; omega)) ?_
      refine TL.fld ?_
      refine TL.valE rfl (by exact Val.load rfl rfl rfl (c := .own (.sl 2 (x.Prog.map dIns))) (by simp [St.store1, St.storeAll, St.cellAt, St.isMem, St.root, St.wrote, St.kill, St.setRoot, TS.kill, TV.kill, C.kill, Rt.kill, hitR, hitP, shapeOf, setRow, setAt, rowAt, D.row, D.reRow, List.isPrefixOf, St.nest, St.kill, St.setRoot, St.root, List.getElem?_set_self', List.set_set, hg]; done) rfl) (by simp only [nput, valC]; rfl) ?_
      refine TL.vE (Val.move 1 rfl rfl) ?_
      refine TL.callN (k1 := 1000000) (q0 := 0) (i0 := i) (j := 0) (yes_none rfl) rfl rfl rfl rfl rfl rfl (laws_markInsS_f x.Prog ((k + m)) (by omega) (by omega) (hsx.1)) rfl rfl (by simp [St.store1, St.storeAll, St.cellAt, St.isMem, St.root, St.wrote, St.kill, St.setRoot, TS.kill, TV.kill, C.kill, Rt.kill, hitR, hitP, shapeOf, setRow, setAt, rowAt, D.row, D.reRow, List.isPrefixOf, St.nest, St.kill, St.setRoot, St.root, List.getElem?_set_self', List.set_set, hg]; rfl) (by rfl) (by repeat first | exact .nil | refine GiveNs.cons (.ro _) ?_ | refine GiveNs.cons .it ?_) rfl (by simp [St.store1, St.storeAll, St.cellAt, St.isMem, St.root, St.wrote, St.kill, St.setRoot, TS.kill, TV.kill, C.kill, Rt.kill, hitR, hitP, shapeOf, setRow, setAt, rowAt, D.row, D.reRow, List.isPrefixOf, St.nest, St.kill, St.setRoot, St.root, List.getElem?_set_self', List.set_set, hg]; rfl) (by simp only [nput]; rfl) ?_
      refine TL.vE (Val.assign 1 rfl rfl) ?_
      refine TL.nil ?_
      show TC _ _ _ _ _ _
      refine TC.seq ?_
      refine TC.region ?_
      refine TL.vE (Val.move 1 rfl rfl) ?_
      refine TL.vE (Val.move 1 rfl rfl) ?_
      refine TL.vE (Val.move 1 rfl rfl) ?_
      refine TL.vE (by exact Val.index rfl rfl rfl rfl rfl rfl (by omega) (by simp [hLl]; omega)) ?_
      refine TL.fld ?_
      refine TL.opK rfl fun K hK => ?_
      refine OpT.store (z := 1) rfl rfl rfl rfl (by simp [St.store1, St.storeAll, St.cellAt, St.isMem, St.root, St.wrote, St.kill, St.setRoot, TS.kill, TV.kill, C.kill, Rt.kill, hitR, hitP, shapeOf, setRow, setAt, rowAt, D.row, D.reRow, List.isPrefixOf, St.nest, St.kill, St.setRoot, St.root, List.getElem?_set_self', List.set_set, hg]; rfl) rfl (by simp [St.store1, St.storeAll, St.cellAt, St.isMem, St.root, St.wrote, St.kill, St.setRoot, TS.kill, TV.kill, C.kill, Rt.kill, hitR, hitP, shapeOf, setRow, setAt, rowAt, D.row, D.reRow, List.isPrefixOf, St.nest, St.kill, St.setRoot, St.root, List.getElem?_set_self', List.set_set, hg]; rfl) ?_
      simp only [nrm, Nat.reduceBEq, Nat.reduceBNe, reduceIte]
      refine hK _ ?_
      clear hK K
      refine TL.nil ?_
      show TC _ _ _ _ _ _
      refine TC.seq ?_
      refine TC.region ?_
      refine TL.vE (Val.move 1 rfl rfl) ?_
      refine TL.vE (Val.addO rfl rfl rfl) ?_
      refine TL.vE (Val.assign 1 rfl rfl) ?_
      refine TL.nil ?_
      show TC _ _ _ _ _ _
      refine TC.seq ?_
      refine TC.region ?_
      refine TL.vE (Val.move 1 rfl rfl) ?_
      refine TL.vE (Val.move 1 rfl rfl) ?_
      refine TL.vE (Val.move 1 rfl rfl) ?_
      refine TL.vE (by exact Val.index rfl rfl rfl rfl rfl rfl (by omega) (by simp [hLl]; omega)) ?_
      refine TL.fld ?_
      refine TL.opK rfl fun K hK => ?_
      refine OpT.store (z := 1) rfl rfl rfl rfl (by simp [St.store1, St.storeAll, St.cellAt, St.isMem, St.root, St.wrote, St.kill, St.setRoot, TS.kill, TV.kill, C.kill, Rt.kill, hitR, hitP, shapeOf, setRow, setAt, rowAt, D.row, D.reRow, List.isPrefixOf, St.nest, St.kill, St.setRoot, St.root, List.getElem?_set_self', List.set_set, hg]; rfl) rfl (by simp [St.store1, St.storeAll, St.cellAt, St.isMem, St.root, St.wrote, St.kill, St.setRoot, TS.kill, TV.kill, C.kill, Rt.kill, hitR, hitP, shapeOf, setRow, setAt, rowAt, D.row, D.reRow, List.isPrefixOf, St.nest, St.kill, St.setRoot, St.root, List.getElem?_set_self', List.set_set, hg]; rfl) ?_
      simp only [nrm, Nat.reduceBEq, Nat.reduceBNe, reduceIte]
      refine hK _ ?_
      clear hK K
      refine TL.nil ?_
      show TC _ _ _ _ _ _
      refine TC.seq ?_
      refine TC.region ?_
      refine TL.vE (Val.move 1 rfl rfl) ?_
      refine TL.vE (Val.addO rfl rfl rfl) ?_
      refine TL.vE (Val.assign 1 rfl rfl) ?_
      refine TL.nil ?_
      show TC _ _ _ _ _ _
      refine TC.seq ?_
      refine TC.region ?_
      refine TL.vE (Val.move 1 rfl rfl) ?_
      refine TL.vE (Val.move 1 rfl rfl) ?_
      refine TL.vE (by exact Val.index rfl rfl rfl rfl rfl rfl (by omega) (by simp [hLl]; omega)) ?_
      refine TL.fld ?_
      refine TL.valE rfl (by exact Val.load rfl rfl rfl (c := .own (.sl 2 (x.Written.map dSlot))) (by simp [St.store1, St.storeAll, St.cellAt, St.isMem, St.root, St.wrote, St.kill, St.setRoot, TS.kill, TV.kill, C.kill, Rt.kill, hitR, hitP, shapeOf, setRow, setAt, rowAt, D.row, D.reRow, List.isPrefixOf, St.nest, St.kill, St.setRoot, St.root, List.getElem?_set_self', List.set_set, hg]; done) rfl) (by simp only [nput, valC]; rfl) ?_
      refine TL.vE (Val.move 1 rfl rfl) ?_
      refine TL.callN (k1 := 1000000) (q0 := 0) (i0 := i) (j := 3) (yes_none rfl) rfl rfl rfl rfl rfl rfl (laws_markSlotS_f x.Written ((k + m) + cntInsS x.Prog + 1 + 1) (by omega) (by omega) (hsx.2.1)) rfl rfl (by simp [St.store1, St.storeAll, St.cellAt, St.isMem, St.root, St.wrote, St.kill, St.setRoot, TS.kill, TV.kill, C.kill, Rt.kill, hitR, hitP, shapeOf, setRow, setAt, rowAt, D.row, D.reRow, List.isPrefixOf, St.nest, St.kill, St.setRoot, St.root, List.getElem?_set_self', List.set_set, hg]; rfl) (by rfl) (by repeat first | exact .nil | refine GiveNs.cons (.ro _) ?_ | refine GiveNs.cons .it ?_) rfl (by simp [St.store1, St.storeAll, St.cellAt, St.isMem, St.root, St.wrote, St.kill, St.setRoot, TS.kill, TV.kill, C.kill, Rt.kill, hitR, hitP, shapeOf, setRow, setAt, rowAt, D.row, D.reRow, List.isPrefixOf, St.nest, St.kill, St.setRoot, St.root, List.getElem?_set_self', List.set_set, hg]; rfl) (by simp only [nput]; rfl) ?_
      refine TL.vE (Val.assign 1 rfl rfl) ?_
      refine TL.nil ?_
      show TC _ _ _ _ _ _
      refine TC.seq ?_
      refine TC.region ?_
      refine TL.vE (Val.move 1 rfl rfl) ?_
      refine TL.vE (Val.move 1 rfl rfl) ?_
      refine TL.vE (by exact Val.index rfl rfl rfl rfl rfl rfl (by omega) (by simp [hLl]; omega)) ?_
      refine TL.fld ?_
      refine TL.valE rfl (by exact Val.load rfl rfl rfl (c := .own (.sl 2 (x.Live.map dSlot))) (by simp [St.store1, St.storeAll, St.cellAt, St.isMem, St.root, St.wrote, St.kill, St.setRoot, TS.kill, TV.kill, C.kill, Rt.kill, hitR, hitP, shapeOf, setRow, setAt, rowAt, D.row, D.reRow, List.isPrefixOf, St.nest, St.kill, St.setRoot, St.root, List.getElem?_set_self', List.set_set, hg]; done) rfl) (by simp only [nput, valC]; rfl) ?_
      refine TL.vE (Val.move 1 rfl rfl) ?_
      refine TL.callN (k1 := 1000000) (q0 := 0) (i0 := i) (j := 4) (yes_none rfl) rfl rfl rfl rfl rfl rfl (laws_markSlotS_f x.Live ((k + m) + cntInsS x.Prog + 1 + 1 + cntSlotS x.Written) (by omega) (by omega) (hsx.2.2.1)) rfl rfl (by simp [St.store1, St.storeAll, St.cellAt, St.isMem, St.root, St.wrote, St.kill, St.setRoot, TS.kill, TV.kill, C.kill, Rt.kill, hitR, hitP, shapeOf, setRow, setAt, rowAt, D.row, D.reRow, List.isPrefixOf, St.nest, St.kill, St.setRoot, St.root, List.getElem?_set_self', List.set_set, hg]; rfl) (by rfl) (by repeat first | exact .nil | refine GiveNs.cons (.ro _) ?_ | refine GiveNs.cons .it ?_) rfl (by simp [St.store1, St.storeAll, St.cellAt, St.isMem, St.root, St.wrote, St.kill, St.setRoot, TS.kill, TV.kill, C.kill, Rt.kill, hitR, hitP, shapeOf, setRow, setAt, rowAt, D.row, D.reRow, List.isPrefixOf, St.nest, St.kill, St.setRoot, St.root, List.getElem?_set_self', List.set_set, hg]; rfl) (by simp only [nput]; rfl) ?_
      refine TL.vE (Val.assign 1 rfl rfl) ?_
      refine TL.nil ?_
      show TC _ _ _ _ _ _
      refine TC.seq ?_
      refine TC.region ?_
      refine TL.vE (Val.move 1 rfl rfl) ?_
      refine TL.vE (Val.move 1 rfl rfl) ?_
      refine TL.vE (Val.move 1 rfl rfl) ?_
      refine TL.vE (by exact Val.index rfl rfl rfl rfl rfl rfl (by omega) (by simp [hLl]; omega)) ?_
      refine TL.fld ?_
      refine TL.fld ?_
      refine TL.opK rfl fun K hK => ?_
      refine OpT.store (z := 1) rfl rfl rfl rfl (by simp [St.store1, St.storeAll, St.cellAt, St.isMem, St.root, St.wrote, St.kill, St.setRoot, TS.kill, TV.kill, C.kill, Rt.kill, hitR, hitP, shapeOf, setRow, setAt, rowAt, D.row, D.reRow, List.isPrefixOf, St.nest, St.kill, St.setRoot, St.root, List.getElem?_set_self', List.set_set, hg]; rfl) rfl (by simp [St.store1, St.storeAll, St.cellAt, St.isMem, St.root, St.wrote, St.kill, St.setRoot, TS.kill, TV.kill, C.kill, Rt.kill, hitR, hitP, shapeOf, setRow, setAt, rowAt, D.row, D.reRow, List.isPrefixOf, St.nest, St.kill, St.setRoot, St.root, List.getElem?_set_self', List.set_set, hg]; rfl) ?_
      simp only [nrm, Nat.reduceBEq, Nat.reduceBNe, reduceIte]
      refine hK _ ?_
      clear hK K
      refine TL.nil ?_
      show TC _ _ _ _ _ _
      refine TC.seq ?_
      refine TC.region ?_
      refine TL.vE (Val.move 1 rfl rfl) ?_
      refine TL.vE (Val.addO rfl rfl rfl) ?_
      refine TL.vE (Val.assign 1 rfl rfl) ?_
      refine TL.nil ?_
      show TC _ _ _ _ _ _
      refine TC.seq ?_
      refine TC.region ?_
      refine TL.vE (Val.move 1 rfl rfl) ?_
      refine TL.vE (Val.move 1 rfl rfl) ?_
      refine TL.vE (Val.move 1 rfl rfl) ?_
      refine TL.vE (by exact Val.index rfl rfl rfl rfl rfl rfl (by omega) (by simp [hLl]; omega)) ?_
      refine TL.fld ?_
      refine TL.fld ?_
      refine TL.opK rfl fun K hK => ?_
      refine OpT.store (z := 1) rfl rfl rfl rfl (by simp [St.store1, St.storeAll, St.cellAt, St.isMem, St.root, St.wrote, St.kill, St.setRoot, TS.kill, TV.kill, C.kill, Rt.kill, hitR, hitP, shapeOf, setRow, setAt, rowAt, D.row, D.reRow, List.isPrefixOf, St.nest, St.kill, St.setRoot, St.root, List.getElem?_set_self', List.set_set, hg]; rfl) rfl (by simp [St.store1, St.storeAll, St.cellAt, St.isMem, St.root, St.wrote, St.kill, St.setRoot, TS.kill, TV.kill, C.kill, Rt.kill, hitR, hitP, shapeOf, setRow, setAt, rowAt, D.row, D.reRow, List.isPrefixOf, St.nest, St.kill, St.setRoot, St.root, List.getElem?_set_self', List.set_set, hg]; rfl) ?_
      simp only [nrm, Nat.reduceBEq, Nat.reduceBNe, reduceIte]
      refine hK _ ?_
      clear hK K
      refine TL.nil ?_
      show TC _ _ _ _ _ _
      refine TC.seq ?_
      refine TC.region ?_
      refine TL.vE (Val.move 1 rfl rfl) ?_
      refine TL.vE (Val.addO rfl rfl rfl) ?_
      refine TL.vE (Val.assign 1 rfl rfl) ?_
      refine TL.nil ?_
      show TC _ _ _ _ _ _
      refine TC.seq ?_
      refine TC.region ?_
      refine TL.vE (Val.move 1 rfl rfl) ?_
      refine TL.vE (Val.move 1 rfl rfl) ?_
      refine TL.vE (Val.move 1 rfl rfl) ?_
      refine TL.vE (Val.rem rfl rfl rfl (by decide)) ?_
      refine TL.vE (Val.eql rfl rfl rfl) ?_
      refine TL.vE (by exact Val.index rfl rfl rfl rfl rfl rfl (by omega) (by simp [hLl]; omega)) ?_
      refine TL.fld ?_
      refine TL.fld ?_
      refine TL.opK rfl fun K hK => ?_
      refine OpT.store (z := 1) rfl rfl rfl rfl (by simp [St.store1, St.storeAll, St.cellAt, St.isMem, St.root, St.wrote, St.kill, St.setRoot, TS.kill, TV.kill, C.kill, Rt.kill, hitR, hitP, shapeOf, setRow, setAt, rowAt, D.row, D.reRow, List.isPrefixOf, St.nest, St.kill, St.setRoot, St.root, List.getElem?_set_self', List.set_set, hg]; rfl) rfl (by simp [St.store1, St.storeAll, St.cellAt, St.isMem, St.root, St.wrote, St.kill, St.setRoot, TS.kill, TV.kill, C.kill, Rt.kill, hitR, hitP, shapeOf, setRow, setAt, rowAt, D.row, D.reRow, List.isPrefixOf, St.nest, St.kill, St.setRoot, St.root, List.getElem?_set_self', List.set_set, hg]; rfl) ?_
      simp only [nrm, Nat.reduceBEq, Nat.reduceBNe, reduceIte]
      refine hK _ ?_
      clear hK K
      refine TL.nil ?_
      show TC _ _ _ _ _ _
      refine TC.seq ?_
      refine TC.region ?_
      refine TL.vE (Val.move 1 rfl rfl) ?_
      refine TL.vE (Val.addO rfl rfl rfl) ?_
      refine TL.vE (Val.assign 1 rfl rfl) ?_
      refine TL.nil ?_
      show TC _ _ _ _ _ _
      refine TC.seq ?_
      refine TC.region ?_
      refine TL.vE (Val.move 1 rfl rfl) ?_
      refine TL.vE (Val.move 1 rfl rfl) ?_
      refine TL.vE (Val.move 1 rfl rfl) ?_
      refine TL.vE (by exact Val.index rfl rfl rfl rfl rfl rfl (by omega) (by simp [hLl]; omega)) ?_
      refine TL.fld ?_
      refine TL.opK rfl fun K hK => ?_
      refine OpT.store (z := 1) rfl rfl rfl rfl (by simp [St.store1, St.storeAll, St.cellAt, St.isMem, St.root, St.wrote, St.kill, St.setRoot, TS.kill, TV.kill, C.kill, Rt.kill, hitR, hitP, shapeOf, setRow, setAt, rowAt, D.row, D.reRow, List.isPrefixOf, St.nest, St.kill, St.setRoot, St.root, List.getElem?_set_self', List.set_set, hg]; rfl) rfl (by simp [St.store1, St.storeAll, St.cellAt, St.isMem, St.root, St.wrote, St.kill, St.setRoot, TS.kill, TV.kill, C.kill, Rt.kill, hitR, hitP, shapeOf, setRow, setAt, rowAt, D.row, D.reRow, List.isPrefixOf, St.nest, St.kill, St.setRoot, St.root, List.getElem?_set_self', List.set_set, hg]; rfl) ?_
      simp only [nrm, Nat.reduceBEq, Nat.reduceBNe, reduceIte]
      refine hK _ ?_
      clear hK K
      refine TL.nil ?_
      show TC _ _ _ _ _ _
      refine TC.seq ?_
      refine TC.region ?_
      refine TL.vE (Val.move 1 rfl rfl) ?_
      refine TL.vE (Val.addO rfl rfl rfl) ?_
      refine TL.vE (Val.assign 1 rfl rfl) ?_
      refine TL.nil ?_
      show TC _ _ _ _ _ _
      refine TC.seq ?_
      refine TC.region ?_
      refine TL.vE (Val.move 1 rfl rfl) ?_
      refine TL.vE (Val.move 1 rfl rfl) ?_
      refine TL.vE (Val.move 1 rfl rfl) ?_
      refine TL.vE (by exact Val.index rfl rfl rfl rfl rfl rfl (by omega) (by simp [hLl]; omega)) ?_
      refine TL.fld ?_
      refine TL.fld ?_
      refine TL.opK rfl fun K hK => ?_
      refine OpT.store (z := 1) rfl rfl rfl rfl (by simp [St.store1, St.storeAll, St.cellAt, St.isMem, St.root, St.wrote, St.kill, St.setRoot, TS.kill, TV.kill, C.kill, Rt.kill, hitR, hitP, shapeOf, setRow, setAt, rowAt, D.row, D.reRow, List.isPrefixOf, St.nest, St.kill, St.setRoot, St.root, List.getElem?_set_self', List.set_set, hg]; rfl) rfl (by simp [St.store1, St.storeAll, St.cellAt, St.isMem, St.root, St.wrote, St.kill, St.setRoot, TS.kill, TV.kill, C.kill, Rt.kill, hitR, hitP, shapeOf, setRow, setAt, rowAt, D.row, D.reRow, List.isPrefixOf, St.nest, St.kill, St.setRoot, St.root, List.getElem?_set_self', List.set_set, hg]; rfl) ?_
      simp only [nrm, Nat.reduceBEq, Nat.reduceBNe, reduceIte]
      refine hK _ ?_
      clear hK K
      refine TL.nil ?_
      show TC _ _ _ _ _ _
      refine TC.seq ?_
      refine TC.region ?_
      refine TL.vE (Val.move 1 rfl rfl) ?_
      refine TL.vE (Val.addO rfl rfl rfl) ?_
      refine TL.vE (Val.assign 1 rfl rfl) ?_
      refine TL.nil ?_
      show TC _ _ _ _ _ _
      refine TC.seq ?_
      refine TC.region ?_
      refine TL.vE (Val.move 1 rfl rfl) ?_
      refine TL.vE (Val.move 1 rfl rfl) ?_
      refine TL.vE (Val.move 1 rfl rfl) ?_
      refine TL.vE (by exact Val.index rfl rfl rfl rfl rfl rfl (by omega) (by simp [hLl]; omega)) ?_
      refine TL.fld ?_
      refine TL.fld ?_
      refine TL.opK rfl fun K hK => ?_
      refine OpT.store (z := 1) rfl rfl rfl rfl (by simp [St.store1, St.storeAll, St.cellAt, St.isMem, St.root, St.wrote, St.kill, St.setRoot, TS.kill, TV.kill, C.kill, Rt.kill, hitR, hitP, shapeOf, setRow, setAt, rowAt, D.row, D.reRow, List.isPrefixOf, St.nest, St.kill, St.setRoot, St.root, List.getElem?_set_self', List.set_set, hg]; rfl) rfl (by simp [St.store1, St.storeAll, St.cellAt, St.isMem, St.root, St.wrote, St.kill, St.setRoot, TS.kill, TV.kill, C.kill, Rt.kill, hitR, hitP, shapeOf, setRow, setAt, rowAt, D.row, D.reRow, List.isPrefixOf, St.nest, St.kill, St.setRoot, St.root, List.getElem?_set_self', List.set_set, hg]; rfl) ?_
      simp only [nrm, Nat.reduceBEq, Nat.reduceBNe, reduceIte]
      refine hK _ ?_
      clear hK K
      refine TL.nil ?_
      show TC _ _ _ _ _ _
      refine TC.seq ?_
      refine TC.region ?_
      refine TL.vE (Val.move 1 rfl rfl) ?_
      refine TL.vE (Val.addO rfl rfl rfl) ?_
      refine TL.vE (Val.assign 1 rfl rfl) ?_
      refine TL.nil ?_
      show TC _ _ _ _ _ _
      refine TC.seq ?_
      refine TC.region ?_
      refine TL.vE (Val.move 1 rfl rfl) ?_
      refine TL.vE (Val.move 1 rfl rfl) ?_
      refine TL.vE (Val.move 1 rfl rfl) ?_
      refine TL.vE (Val.rem rfl rfl rfl (by decide)) ?_
      refine TL.vE (Val.eql rfl rfl rfl) ?_
      refine TL.vE (by exact Val.index rfl rfl rfl rfl rfl rfl (by omega) (by simp [hLl]; omega)) ?_
      refine TL.fld ?_
      refine TL.fld ?_
      refine TL.opK rfl fun K hK => ?_
      refine OpT.store (z := 1) rfl rfl rfl rfl (by simp [St.store1, St.storeAll, St.cellAt, St.isMem, St.root, St.wrote, St.kill, St.setRoot, TS.kill, TV.kill, C.kill, Rt.kill, hitR, hitP, shapeOf, setRow, setAt, rowAt, D.row, D.reRow, List.isPrefixOf, St.nest, St.kill, St.setRoot, St.root, List.getElem?_set_self', List.set_set, hg]; rfl) rfl (by simp [St.store1, St.storeAll, St.cellAt, St.isMem, St.root, St.wrote, St.kill, St.setRoot, TS.kill, TV.kill, C.kill, Rt.kill, hitR, hitP, shapeOf, setRow, setAt, rowAt, D.row, D.reRow, List.isPrefixOf, St.nest, St.kill, St.setRoot, St.root, List.getElem?_set_self', List.set_set, hg]; rfl) ?_
      simp only [nrm, Nat.reduceBEq, Nat.reduceBNe, reduceIte]
      refine hK _ ?_
      clear hK K
      refine TL.nil ?_
      show TC _ _ _ _ _ _
      refine TC.seq ?_
      refine TC.region ?_
      refine TL.vE (Val.move 1 rfl rfl) ?_
      refine TL.vE (Val.addO rfl rfl rfl) ?_
      refine TL.vE (Val.assign 1 rfl rfl) ?_
      refine TL.nil ?_
      show TC _ _ _ _ _ _
      refine TC.seq ?_
      refine TC.region ?_
      refine TL.vE (Val.move 1 rfl rfl) ?_
      refine TL.vE (Val.move 1 rfl rfl) ?_
      refine TL.vE (Val.move 1 rfl rfl) ?_
      refine TL.vE (by exact Val.index rfl rfl rfl rfl rfl rfl (by omega) (by simp [hLl]; omega)) ?_
      refine TL.fld ?_
      refine TL.fld ?_
      refine TL.opK rfl fun K hK => ?_
      refine OpT.store (z := 1) rfl rfl rfl rfl (by simp [St.store1, St.storeAll, St.cellAt, St.isMem, St.root, St.wrote, St.kill, St.setRoot, TS.kill, TV.kill, C.kill, Rt.kill, hitR, hitP, shapeOf, setRow, setAt, rowAt, D.row, D.reRow, List.isPrefixOf, St.nest, St.kill, St.setRoot, St.root, List.getElem?_set_self', List.set_set, hg]; rfl) rfl (by simp [St.store1, St.storeAll, St.cellAt, St.isMem, St.root, St.wrote, St.kill, St.setRoot, TS.kill, TV.kill, C.kill, Rt.kill, hitR, hitP, shapeOf, setRow, setAt, rowAt, D.row, D.reRow, List.isPrefixOf, St.nest, St.kill, St.setRoot, St.root, List.getElem?_set_self', List.set_set, hg]; rfl) ?_
      simp only [nrm, Nat.reduceBEq, Nat.reduceBNe, reduceIte]
      refine hK _ ?_
      clear hK K
      refine TL.nil ?_
      show TC _ _ _ _ _ _
      refine TC.seq ?_
      refine TC.region ?_
      refine TL.vE (Val.move 1 rfl rfl) ?_
      refine TL.vE (Val.addO rfl rfl rfl) ?_
      refine TL.vE (Val.assign 1 rfl rfl) ?_
      refine TL.nil ?_
      show TC _ _ _ _ _ _
      refine TC.seq ?_
      refine TC.region ?_
      refine TL.vE (Val.move 1 rfl rfl) ?_
      refine TL.vE (Val.move 1 rfl rfl) ?_
      refine TL.vE (Val.move 1 rfl rfl) ?_
      refine TL.vE (Val.rem rfl rfl rfl (by decide)) ?_
      refine TL.vE (Val.eql rfl rfl rfl) ?_
      refine TL.vE (by exact Val.index rfl rfl rfl rfl rfl rfl (by omega) (by simp [hLl]; omega)) ?_
      refine TL.fld ?_
      refine TL.opK rfl fun K hK => ?_
      refine OpT.store (z := 1) rfl rfl rfl rfl (by simp [St.store1, St.storeAll, St.cellAt, St.isMem, St.root, St.wrote, St.kill, St.setRoot, TS.kill, TV.kill, C.kill, Rt.kill, hitR, hitP, shapeOf, setRow, setAt, rowAt, D.row, D.reRow, List.isPrefixOf, St.nest, St.kill, St.setRoot, St.root, List.getElem?_set_self', List.set_set, hg]; rfl) rfl (by simp [St.store1, St.storeAll, St.cellAt, St.isMem, St.root, St.wrote, St.kill, St.setRoot, TS.kill, TV.kill, C.kill, Rt.kill, hitR, hitP, shapeOf, setRow, setAt, rowAt, D.row, D.reRow, List.isPrefixOf, St.nest, St.kill, St.setRoot, St.root, List.getElem?_set_self', List.set_set, hg]; rfl) ?_
      simp only [nrm, Nat.reduceBEq, Nat.reduceBNe, reduceIte]
      refine hK _ ?_
      clear hK K
      refine TL.nil ?_
      show TC _ _ _ _ _ _
      refine TC.seq ?_
      refine TC.region ?_
      refine TL.vE (Val.move 1 rfl rfl) ?_
      refine TL.vE (Val.addO rfl rfl rfl) ?_
      refine TL.vE (Val.assign 1 rfl rfl) ?_
      refine TL.nil ?_
      show TC _ _ _ _ _ _
      refine TC.region ?_
      refine TL.vE (Val.move 1 rfl rfl) ?_
      refine TL.vE (Val.move 1 rfl rfl) ?_
      refine TL.vE (by exact Val.index rfl rfl rfl rfl rfl rfl (by omega) (by simp [hLl]; omega)) ?_
      refine TL.fld ?_
      refine TL.valE rfl (by exact Val.load rfl rfl rfl (c := .own (.sl 1 (x.Seen.map dInt))) (by simp [St.store1, St.storeAll, St.cellAt, St.isMem, St.root, St.wrote, St.kill, St.setRoot, TS.kill, TV.kill, C.kill, Rt.kill, hitR, hitP, shapeOf, setRow, setAt, rowAt, D.row, D.reRow, List.isPrefixOf, St.nest, St.kill, St.setRoot, St.root, List.getElem?_set_self', List.set_set, hg]; done) rfl) (by simp only [nput, valC]; rfl) ?_
      refine TL.vE (Val.move 1 rfl rfl) ?_
      refine TL.callN (k1 := 1000000) (q0 := 0) (i0 := i) (j := 14) (yes_none rfl) rfl rfl rfl rfl rfl rfl (laws_markIntS_f x.Seen ((k + m) + cntInsS x.Prog + 1 + 1 + cntSlotS x.Written + cntSlotS x.Live + 1 + 1 + 1 + 1 + 1 + 1 + 1 + 1 + 1) (by omega) (by omega) (hsx.2.2.2)) rfl rfl (by simp [St.store1, St.storeAll, St.cellAt, St.isMem, St.root, St.wrote, St.kill, St.setRoot, TS.kill, TV.kill, C.kill, Rt.kill, hitR, hitP, shapeOf, setRow, setAt, rowAt, D.row, D.reRow, List.isPrefixOf, St.nest, St.kill, St.setRoot, St.root, List.getElem?_set_self', List.set_set, hg]; rfl) (by rfl) (by repeat first | exact .nil | refine GiveNs.cons (.ro _) ?_ | refine GiveNs.cons .it ?_) rfl (by simp [St.store1, St.storeAll, St.cellAt, St.isMem, St.root, St.wrote, St.kill, St.setRoot, TS.kill, TV.kill, C.kill, Rt.kill, hitR, hitP, shapeOf, setRow, setAt, rowAt, D.row, D.reRow, List.isPrefixOf, St.nest, St.kill, St.setRoot, St.root, List.getElem?_set_self', List.set_set, hg]; rfl) (by simp only [nput]; rfl) ?_
      refine TL.vE (Val.assign 1 rfl rfl) ?_
      refine TL.nil ?_
      show TC _ _ _ _ _ _
      refine TC.region ?_
      refine TL.vE (Val.move 1 rfl rfl) ?_
      refine TL.vE (Val.addO rfl rfl rfl) ?_
      refine TL.vE (Val.assign 1 rfl rfl) ?_
      refine TL.nil ?_
      first | refine Seq.normal ⟨_, ?_, i + 1, ?_, rfl, ?_⟩ | refine Seq.normal (Q := fun _ _ => True) ⟨_, ?_, i + 1, ?_, rfl, ?_⟩
      · omega
      · omega
      · exact Can.to (by repeat first | exact LessT.nil | refine LessT.drop ?_ | refine LessT.keep ?_ | refine LessT.eq (by first | rfl | (simp; done) | exact congrArg (fun z : Int => (I z : TS)) (by rw [hcs]; omega) | exact congrArg (fun z : Int => (I z : TS)) (by omega)) ?_) (.cons rfl (by simp [hs]) .nil)
    have hk9 := hb
    refine TC.exit ?_
    show TC _ _ _ _ _ _
    refine TC.seq ?_
    have hn : i = xs.length := (by simp [mix_len (mkGuestS_len k xs)] at hb; omega)
    subst hn
    rw [mix_all (mkGuestS_len k xs) (Nat.le_refl _), List.take_length]
    refine TC.region ?_
    refine TL.vE (Val.move 1 rfl rfl) ?_
    refine TL.vE (Val.assign 1 rfl rfl) ?_
    refine TL.nil ?_
    show TC _ _ _ _ _ _
    refine TC.ret ?_
    exact ⟨.inr rfl, [_], [_], _, [.sl 15 ((mkGuestS k xs).map dGuest)], rfl, by decide, rfl, by simp [refV, refC, valC, C.kill, hitR], rfl, rfl, by simp, rfl, ⟨rfl, rfl⟩⟩

theorem laws_markKeptS_f (xs : List VKept) (k : Int) (h1 : 0 ≤ k) (h2 : k + cntKeptS xs ≤ 1000000000000000) (hmx : SmKeptS xs) : Fun2 Tryz.prog 98 (⟨false, [.sl 2 (xs.map dKept)]⟩) [.one (.c (.ref ⟨1000000, [], 0⟩)), I k] (RP2 [.sl 2 ((mkKeptS k xs).map dKept)] (I (k + cntKeptS xs))) := by
  refine Fun2.of Tryz.func98 rfl (by simp [Tryz.ntmps98]) fun w g0 => ?_
  simp only [Tryz.ntmps98, List.length_cons, List.length_nil, Nat.reduceAdd, Nat.reduceSub, List.replicate, List.cons_append, List.nil_append, Hand.k, pinK, pinB, if_true, if_false, Bool.false_eq_true, List.map_cons, List.map_nil]
  refine TC.seq ?_
  refine TC.region ?_
  refine TL.vE (Val.assign 1 rfl rfl) ?_
  refine TL.nil ?_
  show TC _ _ _ _ _ _
  refine TC.seq ?_
  refine TC.seq ?_
  refine TC.region ?_
  refine TL.vE (Val.assign 1 rfl rfl) ?_
  refine TL.nil ?_
  show TC _ _ _ _ _ _
  refine TC.block ?_
  refine TC.loop (fun μ st => ∃ i : Nat, (i ≤ xs.length) ∧ μ = xs.length - i ∧ Can st ⟨[.one (.c (.ref ⟨1000000, [], 0⟩)), I (k + cntFold cntEKept (xs.take i)), .one .dead, .one .dead, .one .dead, I i, .one .dead, .one .dead, .one .dead, .one .dead, .one .dead, .one .dead, .one .dead, .one .dead, .one .dead, .one .dead, .one .dead, .one .dead, .one .dead, .one .dead, .one .dead, .one .dead, .one .dead, .one .dead, .one .dead, .one .dead, .one .dead], [(1000000, ⟨false, [.own (.sl 2 ((mix (mkKeptS k xs) xs i).map dKept))]⟩)]⟩) (xs.length) ?_ fun μ st hI => ?_
  · refine ⟨0, by simp, by simp, ?_⟩
    exact Can.to (by repeat first | exact LessT.nil | refine LessT.drop ?_ | refine LessT.keep ?_ | refine LessT.eq (by simp [cntFold]) ?_) (.cons rfl (by simp [mix_zero]) .nil)
  · obtain ⟨i, hyp, rfl, hcan⟩ := hI
    refine TC.can hcan ?_
    clear hcan
    refine TC.seq ?_
    refine TC.seq ?_
    refine TC.region ?_
    refine TL.vE (Val.move 1 rfl rfl) ?_
    refine TL.vE (Val.move 1 rfl rfl) ?_
    refine TL.vE (by first | exact Val.len rfl rfl rfl rfl | exact Val.lenS rfl rfl rfl) ?_
    refine TL.vE (Val.lss rfl rfl rfl) ?_
    refine TL.nil ?_
    show TC _ _ _ _ _ _
    refine TC.cond rfl (fun hb => ?_) (fun hb => ?_)
    · have hk9 := hb
      refine TC.skip ?_
      show TC _ _ _ _ _ _
      refine TC.seq ?_
      refine TC.block ?_
      refine TC.seq ?_
      have hi : i < xs.length := by simpa [mix_len (mkKeptS_len k xs)] using hb
      have hlen : xs.length ≤ 2097152 := Nat.le_trans (show xs.length ≤ 1048576 from hmx.1) (by decide)
      obtain ⟨x, hx⟩ := at_of (xs := xs) (k := i) hi
      have hcs := cntFold_step (c := cntEKept) hx
      have hc1 := cntFold_le cntEKept_nn xs (i + 1)
      have hc0 := cntFold_nn cntEKept_nn (xs.take i)
      have hcd : cntFold cntEKept xs = cntKeptS xs := rfl
      have hsx : SmKept x := hmx.2 x (List.mem_of_getElem? hx)
      have hn0 := cntBoolS_nn x.Known
      have hn1 := cntSlotS_nn x.Slots
      have hg : ((mix (mkKeptS k xs) xs i).map dKept)[i]? = some (dKept x) := by simp [List.getElem?_map, mix_get (mkKeptS_len k xs), hx]
      have hs : ((mix (mkKeptS k xs) xs i).map dKept).set i (dKept (mkEKept (k + cntFold cntEKept (xs.take i)) x)) = ((mix (mkKeptS k xs) xs (i + 1)).map dKept) := by rw [← mix_set (mkKeptS_len k xs) (mkFold_get mkEKept cntEKept k hx), List.map_set]
      have hLl : ((mix (mkKeptS k xs) xs i).map dKept).length = xs.length := by simp [mix_len (mkKeptS_len k xs)]
      generalize ((mix (mkKeptS k xs) xs i).map dKept) = L at *
      simp only [dKept, rKept, mkEKept, cntEKept] at hg hs hcs
      generalize hKI : cntFold cntEKept (xs.take i) = m at *
      refine TC.region ?_
      refine TL.vE (Val.move 1 rfl rfl) ?_
      refine TL.vE (Val.move 1 rfl rfl) ?_
      refine TL.vE (by exact Val.index rfl rfl rfl rfl rfl rfl (by omega) (by simp [hLl]; omega)) ?_
      refine TL.fld ?_
      refine TL.valE rfl (by exact Val.load rfl rfl rfl (c := .own (.sl 1 (x.Known.map dBool))) (by simp [St.store1, St.storeAll, St.cellAt, St.isMem, St.root, St.wrote, St.kill, St.setRoot, TS.kill, TV.kill, C.kill, Rt.kill, hitR, hitP, shapeOf, setRow, setAt, rowAt, D.row, D.reRow, List.isPrefixOf, St.nest, St.kill, St.setRoot, St.root, List.getElem?_set_self', List.set_set, hg]; done) rfl) (by simp only [nput, valC]; rfl) ?_
      refine TL.vE (Val.move 1 rfl rfl) ?_
      refine TL.callN (k1 := 1000000) (q0 := 0) (i0 := i) (j := 0) (yes_none rfl) rfl rfl rfl rfl rfl rfl (laws_markBoolS_f x.Known ((k + m)) (by omega) (by omega) (hsx.1)) rfl rfl (by simp [St.store1, St.storeAll, St.cellAt, St.isMem, St.root, St.wrote, St.kill, St.setRoot, TS.kill, TV.kill, C.kill, Rt.kill, hitR, hitP, shapeOf, setRow, setAt, rowAt, D.row, D.reRow, List.isPrefixOf, St.nest, St.kill, St.setRoot, St.root, List.getElem?_set_self', List.set_set, hg]; rfl) (by rfl) (by repeat first | exact .nil | refine GiveNs.cons (.ro _) ?_ | refine GiveNs.cons .it ?_) rfl (by simp [St.store1, St.storeAll, St.cellAt, St.isMem, St.root, St.wrote, St.kill, St.setRoot, TS.kill, TV.kill, C.kill, Rt.kill, hitR, hitP, shapeOf, setRow, setAt, rowAt, D.row, D.reRow, List.isPrefixOf, St.nest, St.kill, St.setRoot, St.root, List.getElem?_set_self', List.set_set, hg]; rfl) (by simp only [nput]; rfl) ?_
      refine TL.vE (Val.assign 1 rfl rfl) ?_
      refine TL.nil ?_
      show TC _ _ _ _ _ _
      refine TC.region ?_
      refine TL.vE (Val.move 1 rfl rfl) ?_
      refine TL.vE (Val.move 1 rfl rfl) ?_
      refine TL.vE (by exact Val.index rfl rfl rfl rfl rfl rfl (by omega) (by simp [hLl]; omega)) ?_
      refine TL.fld ?_
      refine TL.valE rfl (by exact Val.load rfl rfl rfl (c := .own (.sl 2 (x.Slots.map dSlot))) (by simp [St.store1, St.storeAll, St.cellAt, St.isMem, St.root, St.wrote, St.kill, St.setRoot, TS.kill, TV.kill, C.kill, Rt.kill, hitR, hitP, shapeOf, setRow, setAt, rowAt, D.row, D.reRow, List.isPrefixOf, St.nest, St.kill, St.setRoot, St.root, List.getElem?_set_self', List.set_set, hg]; done) rfl) (by simp only [nput, valC]; rfl) ?_
      refine TL.vE (Val.move 1 rfl rfl) ?_
      refine TL.callN (k1 := 1000000) (q0 := 0) (i0 := i) (j := 1) (yes_none rfl) rfl rfl rfl rfl rfl rfl (laws_markSlotS_f x.Slots ((k + m) + cntBoolS x.Known) (by omega) (by omega) (hsx.2)) rfl rfl (by simp [St.store1, St.storeAll, St.cellAt, St.isMem, St.root, St.wrote, St.kill, St.setRoot, TS.kill, TV.kill, C.kill, Rt.kill, hitR, hitP, shapeOf, setRow, setAt, rowAt, D.row, D.reRow, List.isPrefixOf, St.nest, St.kill, St.setRoot, St.root, List.getElem?_set_self', List.set_set, hg]; rfl) (by rfl) (by repeat first | exact .nil | refine GiveNs.cons (.ro _) ?_ | refine GiveNs.cons .it ?_) rfl (by simp [St.store1, St.storeAll, St.cellAt, St.isMem, St.root, St.wrote, St.kill, St.setRoot, TS.kill, TV.kill, C.kill, Rt.kill, hitR, hitP, shapeOf, setRow, setAt, rowAt, D.row, D.reRow, List.isPrefixOf, St.nest, St.kill, St.setRoot, St.root, List.getElem?_set_self', List.set_set, hg]; rfl) (by simp only [nput]; rfl) ?_
      refine TL.vE (Val.assign 1 rfl rfl) ?_
      refine TL.nil ?_
      show TC _ _ _ _ _ _
      refine TC.region ?_
      refine TL.vE (Val.move 1 rfl rfl) ?_
      refine TL.vE (Val.addO rfl rfl rfl) ?_
      refine TL.vE (Val.assign 1 rfl rfl) ?_
      refine TL.nil ?_
      first | refine Seq.normal ⟨_, ?_, i + 1, ?_, rfl, ?_⟩ | refine Seq.normal (Q := fun _ _ => True) ⟨_, ?_, i + 1, ?_, rfl, ?_⟩
      · omega
      · omega
      · exact Can.to (by repeat first | exact LessT.nil | refine LessT.drop ?_ | refine LessT.keep ?_ | refine LessT.eq (by first | rfl | (simp; done) | exact congrArg (fun z : Int => (I z : TS)) (by rw [hcs]; omega) | exact congrArg (fun z : Int => (I z : TS)) (by omega)) ?_) (.cons rfl (by simp [hs]) .nil)
    have hk9 := hb
    refine TC.exit ?_
    show TC _ _ _ _ _ _
    refine TC.seq ?_
    have hn : i = xs.length := (by simp [mix_len (mkKeptS_len k xs)] at hb; omega)
    subst hn
    rw [mix_all (mkKeptS_len k xs) (Nat.le_refl _), List.take_length]
    refine TC.region ?_
    refine TL.vE (Val.move 1 rfl rfl) ?_
    refine TL.vE (Val.assign 1 rfl rfl) ?_
    refine TL.nil ?_
    show TC _ _ _ _ _ _
    refine TC.ret ?_
    exact ⟨.inr rfl, [_], [_], _, [.sl 2 ((mkKeptS k xs).map dKept)], rfl, by decide, rfl, by simp [refV, refC, valC, C.kill, hitR], rfl, rfl, by simp, rfl, ⟨rfl, rfl⟩⟩

theorem laws_markMonS_f (xs : List VMon) (k : Int) (h1 : 0 ≤ k) (h2 : k + cntMonS xs ≤ 1000000000000000) (hmx : SmMonS xs) : Fun2 Tryz.prog 48 (⟨false, [.sl 9 (xs.map dMon)]⟩) [.one (.c (.ref ⟨1000000, [], 0⟩)), I k] (RP2 [.sl 9 ((mkMonS k xs).map dMon)] (I (k + cntMonS xs))) := by
  refine Fun2.of Tryz.func48 rfl (by simp [Tryz.ntmps48]) fun w g0 => ?_
  simp only [Tryz.ntmps48, List.length_cons, List.length_nil, Nat.reduceAdd, Nat.reduceSub, List.replicate, List.cons_append, List.nil_append, Hand.k, pinK, pinB, if_true, if_false, Bool.false_eq_true, List.map_cons, List.map_nil]
  refine TC.seq ?_
  refine TC.region ?_
  refine TL.vE (Val.assign 1 rfl rfl) ?_
  refine TL.nil ?_
  show TC _ _ _ _ _ _
  refine TC.seq ?_
  refine TC.seq ?_
  refine TC.region ?_
  refine TL.vE (Val.assign 1 rfl rfl) ?_
  refine TL.nil ?_
  show TC _ _ _ _ _ _
  refine TC.block ?_
  refine TC.loop (fun μ st => ∃ i : Nat, (i ≤ xs.length) ∧ μ = xs.length - i ∧ Can st ⟨[.one (.c (.ref ⟨1000000, [], 0⟩)), I (k + cntFold cntEMon (xs.take i)), .one .dead, .one .dead, .one .dead, I i, .one .dead, .one .dead, .one .dead, .one .dead, .one .dead, .one .dead, .one .dead, .one .dead, .one .dead, .one .dead, .one .dead, .one .dead, .one .dead, .one .dead, .one .dead, .one .dead, .one .dead, .one .dead, .one .dead, .one .dead, .one .dead, .one .dead, .one .dead, .one .dead, .one .dead, .one .dead, .one .dead, .one .dead, .one .dead, .one .dead, .one .dead, .one .dead, .one .dead, .one .dead, .one .dead, .one .dead, .one .dead, .one .dead, .one .dead, .one .dead, .one .dead, .one .dead, .one .dead, .one .dead, .one .dead, .one .dead, .one .dead, .one .dead, .one .dead, .one .dead, .one .dead, .one .dead, .one .dead, .one .dead, .one .dead, .one .dead, .one .dead, .one .dead, .one .dead, .one .dead, .one .dead, .one .dead, .one .dead, .one .dead, .one .dead, .one .dead, .one .dead, .one .dead, .one .dead, .one .dead], [(1000000, ⟨false, [.own (.sl 9 ((mix (mkMonS k xs) xs i).map dMon))]⟩)]⟩) (xs.length) ?_ fun μ st hI => ?_
  · refine ⟨0, by simp, by simp, ?_⟩
    exact Can.to (by repeat first | exact LessT.nil | refine LessT.drop ?_ | refine LessT.keep ?_ | refine LessT.eq (by simp [cntFold]) ?_) (.cons rfl (by simp [mix_zero]) .nil)
  · obtain ⟨i, hyp, rfl, hcan⟩ := hI
    refine TC.can hcan ?_
    clear hcan
    refine TC.seq ?_
    refine TC.seq ?_
    refine TC.region ?_
    refine TL.vE (Val.move 1 rfl rfl) ?_
    refine TL.vE (Val.move 1 rfl rfl) ?_
    refine TL.vE (by first | exact Val.len rfl rfl rfl rfl | exact Val.lenS rfl rfl rfl) ?_
    refine TL.vE (Val.lss rfl rfl rfl) ?_
    refine TL.nil ?_
    show TC _ _ _ _ _ _
    refine TC.cond rfl (fun hb => ?_) (fun hb => ?_)
    · have hk9 := hb
      refine TC.skip ?_
      show TC _ _ _ _ _ _
      refine TC.seq ?_
      refine TC.block ?_
      refine TC.seq ?_
      have hi : i < xs.length := by simpa [mix_len (mkMonS_len k xs)] using hb
      have hlen : xs.length ≤ 2097152 := Nat.le_trans (show xs.length ≤ 1048576 from hmx.1) (by decide)
      obtain ⟨x, hx⟩ := at_of (xs := xs) (k := i) hi
      have hcs := cntFold_step (c := cntEMon) hx
      have hc1 := cntFold_le cntEMon_nn xs (i + 1)
      have hc0 := cntFold_nn cntEMon_nn (xs.take i)
      have hcd : cntFold cntEMon xs = cntMonS xs := rfl
      have hsx : SmMon x := hmx.2 x (List.mem_of_getElem? hx)
      have hn0 := cntSlotS_nn x.Outer
      have hn1 := cntIntSS_nn x.Out
      have hn2 := cntBoolS_nn x.Dirty
      have hn3 := cntGuestS_nn x.Guests
      have hn4 := cntIntS_nn x.Outs
      have hn5 := cntKeptS_nn x.Tables
      have hg : ((mix (mkMonS k xs) xs i).map dMon)[i]? = some (dMon x) := by simp [List.getElem?_map, mix_get (mkMonS_len k xs), hx]
      have hs : ((mix (mkMonS k xs) xs i).map dMon).set i (dMon (mkEMon (k + cntFold cntEMon (xs.take i)) x)) = ((mix (mkMonS k xs) xs (i + 1)).map dMon) := by rw [← mix_set (mkMonS_len k xs) (mkFold_get mkEMon cntEMon k hx), List.map_set]
      have hLl : ((mix (mkMonS k xs) xs i).map dMon).length = xs.length := by simp [mix_len (mkMonS_len k xs)]
      generalize ((mix (mkMonS k xs) xs i).map dMon) = L at *
      simp only [dMon, rMon, mkEMon, cntEMon] at hg hs hcs
      generalize hKI : cntFold cntEMon (xs.take i) = m at *
      refine TC.region ?_
      refine TL.vE (Val.move 1 rfl rfl) ?_
      refine TL.vE (Val.move 1 rfl rfl) ?_
      refine TL.vE (by exact Val.index rfl rfl rfl rfl rfl rfl (by omega) (by simp [hLl]; omega)) ?_
      refine TL.fld ?_
      refine TL.valE rfl (by exact Val.load rfl rfl rfl (c := .own (.sl 2 (x.Outer.map dSlot))) (by simp [St.store1, St.storeAll, St.cellAt, St.isMem, St.root, St.wrote, St.kill, St.setRoot, TS.kill, TV.kill, C.kill, Rt.kill, hitR, hitP, shapeOf, setRow, setAt, rowAt, D.row, D.reRow, List.isPrefixOf, St.nest, St.kill, St.setRoot, St.root, List.getElem?_set_self', List.set_set, hg]; done) rfl) (by simp only [nput, valC]; rfl) ?_
      refine TL.vE (Val.move 1 rfl rfl) ?_
      refine TL.callN (k1 := 1000000) (q0 := 0) (i0 := i) (j := 0) (yes_none rfl) rfl rfl rfl rfl rfl rfl (laws_markSlotS_f x.Outer ((k + m)) (by omega) (by omega) (hsx.1)) rfl rfl (by simp [St.store1, St.storeAll, St.cellAt, St.isMem, St.root, St.wrote, St.kill, St.setRoot, TS.kill, TV.kill, C.kill, Rt.kill, hitR, hitP, shapeOf, setRow, setAt, rowAt, D.row, D.reRow, List.isPrefixOf, St.nest, St.kill, St.setRoot, St.root, List.getElem?_set_self', List.set_set, hg]; rfl) (by rfl) (by repeat first | exact .nil | refine GiveNs.cons (.ro _) ?_ | refine GiveNs.cons .it ?_) rfl (by simp [St.store1, St.storeAll, St.cellAt, St.isMem, St.root, St.wrote, St.kill, St.setRoot, TS.kill, TV.kill, C.kill, Rt.kill, hitR, hitP, shapeOf, setRow, setAt, rowAt, D.row, D.reRow, List.isPrefixOf, St.nest, St.kill, St.setRoot, St.root, List.getElem?_set_self', List.set_set, hg]; rfl) (by simp only [nput]; rfl) ?_
      refine TL.vE (Val.assign 1 rfl rfl) ?_
      refine TL.nil ?_
      show TC _ _ _ _ _ _
      refine TC.seq ?_
      refine TC.region ?_
      refine TL.vE (Val.move 1 rfl rfl) ?_
      refine TL.vE (Val.move 1 rfl rfl) ?_
      refine TL.vE (by exact Val.index rfl rfl rfl rfl rfl rfl (by omega) (by simp [hLl]; omega)) ?_
      refine TL.fld ?_
      refine TL.valE rfl (by exact Val.load rfl rfl rfl (c := .own (.sl 1 (x.Out.map dIntS))) (by simp [St.store1, St.storeAll, St.cellAt, St.isMem, St.root, St.wrote, St.kill, St.setRoot, TS.kill, TV.kill, C.kill, Rt.kill, hitR, hitP, shapeOf, setRow, setAt, rowAt, D.row, D.reRow, List.isPrefixOf, St.nest, St.kill, St.setRoot, St.root, List.getElem?_set_self', List.set_set, hg]; done) rfl) (by simp only [nput, valC]; rfl) ?_
      refine TL.vE (Val.move 1 rfl rfl) ?_
      refine TL.callN (k1 := 1000000) (q0 := 0) (i0 := i) (j := 1) (yes_none rfl) rfl rfl rfl rfl rfl rfl (laws_markIntSS_f x.Out ((k + m) + cntSlotS x.Outer) (by omega) (by omega) (hsx.2.1)) rfl rfl (by simp [St.store1, St.storeAll, St.cellAt, St.isMem, St.root, St.wrote, St.kill, St.setRoot, TS.kill, TV.kill, C.kill, Rt.kill, hitR, hitP, shapeOf, setRow, setAt, rowAt, D.row, D.reRow, List.isPrefixOf, St.nest, St.kill, St.setRoot, St.root, List.getElem?_set_self', List.set_set, hg]; rfl) (by rfl) (by repeat first | exact .nil | refine GiveNs.cons (.ro _) ?_ | refine GiveNs.cons .it ?_) rfl (by simp [St.store1, St.storeAll, St.cellAt, St.isMem, St.root, St.wrote, St.kill, St.setRoot, TS.kill, TV.kill, C.kill, Rt.kill, hitR, hitP, shapeOf, setRow, setAt, rowAt, D.row, D.reRow, List.isPrefixOf, St.nest, St.kill, St.setRoot, St.root, List.getElem?_set_self', List.set_set, hg]; rfl) (by simp only [nput]; rfl) ?_
      refine TL.vE (Val.assign 1 rfl rfl) ?_
      refine TL.nil ?_
      show TC _ _ _ _ _ _
      refine TC.seq ?_
      refine TC.region ?_
      refine TL.vE (Val.move 1 rfl rfl) ?_
      refine TL.vE (Val.move 1 rfl rfl) ?_
      refine TL.vE (by exact Val.index rfl rfl rfl rfl rfl rfl (by omega) (by simp [hLl]; omega)) ?_
      refine TL.fld ?_
      refine TL.valE rfl (by exact Val.load rfl rfl rfl (c := .own (.sl 1 (x.Dirty.map dBool))) (by simp [St.store1, St.storeAll, St.cellAt, St.isMem, St.root, St.wrote, St.kill, St.setRoot, TS.kill, TV.kill, C.kill, Rt.kill, hitR, hitP, shapeOf, setRow, setAt, rowAt, D.row, D.reRow, List.isPrefixOf, St.nest, St.kill, St.setRoot, St.root, List.getElem?_set_self', List.set_set, hg]; done) rfl) (by simp only [nput, valC]; rfl) ?_
      refine TL.vE (Val.move 1 rfl rfl) ?_
      refine TL.callN (k1 := 1000000) (q0 := 0) (i0 := i) (j := 2) (yes_none rfl) rfl rfl rfl rfl rfl rfl (laws_markBoolS_f x.Dirty ((k + m) + cntSlotS x.Outer + cntIntSS x.Out) (by omega) (by omega) (hsx.2.2.1)) rfl rfl (by simp [St.store1, St.storeAll, St.cellAt, St.isMem, St.root, St.wrote, St.kill, St.setRoot, TS.kill, TV.kill, C.kill, Rt.kill, hitR, hitP, shapeOf, setRow, setAt, rowAt, D.row, D.reRow, List.isPrefixOf, St.nest, St.kill, St.setRoot, St.root, List.getElem?_set_self', List.set_set, hg]; rfl) (by rfl) (by repeat first | exact .nil | refine GiveNs.cons (.ro _) ?_ | refine GiveNs.cons .it ?_) rfl (by simp [St.store1, St.storeAll, St.cellAt, St.isMem, St.root, St.wrote, St.kill, St.setRoot, TS.kill, TV.kill, C.kill, Rt.kill, hitR, hitP, shapeOf, setRow, setAt, rowAt, D.row, D.reRow, List.isPrefixOf, St.nest, St.kill, St.setRoot, St.root, List.getElem?_set_self', List.set_set, hg]; rfl) (by simp only [nput]; rfl) ?_
      refine TL.vE (Val.assign 1 rfl rfl) ?_
      refine TL.nil ?_
      show TC _ _ _ _ _ _
      refine TC.seq ?_
      refine TC.region ?_
      refine TL.vE (Val.move 1 rfl rfl) ?_
      refine TL.vE (Val.move 1 rfl rfl) ?_
      refine TL.vE (by exact Val.index rfl rfl rfl rfl rfl rfl (by omega) (by simp [hLl]; omega)) ?_
      refine TL.fld ?_
      refine TL.valE rfl (by exact Val.load rfl rfl rfl (c := .own (.sl 15 (x.Guests.map dGuest))) (by simp [St.store1, St.storeAll, St.cellAt, St.isMem, St.root, St.wrote, St.kill, St.setRoot, TS.kill, TV.kill, C.kill, Rt.kill, hitR, hitP, shapeOf, setRow, setAt, rowAt, D.row, D.reRow, List.isPrefixOf, St.nest, St.kill, St.setRoot, St.root, List.getElem?_set_self', List.set_set, hg]; done) rfl) (by simp only [nput, valC]; rfl) ?_
      refine TL.vE (Val.move 1 rfl rfl) ?_
      refine TL.callN (k1 := 1000000) (q0 := 0) (i0 := i) (j := 3) (yes_none rfl) rfl rfl rfl rfl rfl rfl (laws_markGuestS_f x.Guests ((k + m) + cntSlotS x.Outer + cntIntSS x.Out + cntBoolS x.Dirty) (by omega) (by omega) (hsx.2.2.2.1)) rfl rfl (by simp [St.store1, St.storeAll, St.cellAt, St.isMem, St.root, St.wrote, St.kill, St.setRoot, TS.kill, TV.kill, C.kill, Rt.kill, hitR, hitP, shapeOf, setRow, setAt, rowAt, D.row, D.reRow, List.isPrefixOf, St.nest, St.kill, St.setRoot, St.root, List.getElem?_set_self', List.set_set, hg]; rfl) (by rfl) (by repeat first | exact .nil | refine GiveNs.cons (.ro _) ?_ | refine GiveNs.cons .it ?_) rfl (by simp [St.store1, St.storeAll, St.cellAt, St.isMem, St.root, St.wrote, St.kill, St.setRoot, TS.kill, TV.kill, C.kill, Rt.kill, hitR, hitP, shapeOf, setRow, setAt, rowAt, D.row, D.reRow, List.isPrefixOf, St.nest, St.kill, St.setRoot, St.root, List.getElem?_set_self', List.set_set, hg]; rfl) (by simp only [nput]; rfl) ?_
      refine TL.vE (Val.assign 1 rfl rfl) ?_
      refine TL.nil ?_
      show TC _ _ _ _ _ _
      refine TC.seq ?_
      refine TC.region ?_
      refine TL.vE (Val.move 1 rfl rfl) ?_
      refine TL.vE (Val.move 1 rfl rfl) ?_
      refine TL.vE (by exact Val.index rfl rfl rfl rfl rfl rfl (by omega) (by simp [hLl]; omega)) ?_
      refine TL.fld ?_
      refine TL.valE rfl (by exact Val.load rfl rfl rfl (c := .own (.sl 1 (x.Outs.map dInt))) (by simp [St.store1, St.storeAll, St.cellAt, St.isMem, St.root, St.wrote, St.kill, St.setRoot, TS.kill, TV.kill, C.kill, Rt.kill, hitR, hitP, shapeOf, setRow, setAt, rowAt, D.row, D.reRow, List.isPrefixOf, St.nest, St.kill, St.setRoot, St.root, List.getElem?_set_self', List.set_set, hg]; done) rfl) (by simp only [nput, valC]; rfl) ?_
      refine TL.vE (Val.move 1 rfl rfl) ?_
      refine TL.callN (k1 := 1000000) (q0 := 0) (i0 := i) (j := 4) (yes_none rfl) rfl rfl rfl rfl rfl rfl (laws_markIntS_f x.Outs ((k + m) + cntSlotS x.Outer + cntIntSS x.Out + cntBoolS x.Dirty + cntGuestS x.Guests) (by omega) (by omega) (hsx.2.2.2.2.1)) rfl rfl (by simp [St.store1, St.storeAll, St.cellAt, St.isMem, St.root, St.wrote, St.kill, St.setRoot, TS.kill, TV.kill, C.kill, Rt.kill, hitR, hitP, shapeOf, setRow, setAt, rowAt, D.row, D.reRow, List.isPrefixOf, St.nest, St.kill, St.setRoot, St.root, List.getElem?_set_self', List.set_set, hg]; rfl) (by rfl) (by repeat first | exact .nil | refine GiveNs.cons (.ro _) ?_ | refine GiveNs.cons .it ?_) rfl (by simp [St.store1, St.storeAll, St.cellAt, St.isMem, St.root, St.wrote, St.kill, St.setRoot, TS.kill, TV.kill, C.kill, Rt.kill, hitR, hitP, shapeOf, setRow, setAt, rowAt, D.row, D.reRow, List.isPrefixOf, St.nest, St.kill, St.setRoot, St.root, List.getElem?_set_self', List.set_set, hg]; rfl) (by simp only [nput]; rfl) ?_
      refine TL.vE (Val.assign 1 rfl rfl) ?_
      refine TL.nil ?_
      show TC _ _ _ _ _ _
      refine TC.seq ?_
      refine TC.region ?_
      refine TL.vE (Val.move 1 rfl rfl) ?_
      refine TL.vE (Val.move 1 rfl rfl) ?_
      refine TL.vE (Val.move 1 rfl rfl) ?_
      refine TL.vE (by exact Val.index rfl rfl rfl rfl rfl rfl (by omega) (by simp [hLl]; omega)) ?_
      refine TL.fld ?_
      refine TL.opK rfl fun K hK => ?_
      refine OpT.store (z := 1) rfl rfl rfl rfl (by simp [St.store1, St.storeAll, St.cellAt, St.isMem, St.root, St.wrote, St.kill, St.setRoot, TS.kill, TV.kill, C.kill, Rt.kill, hitR, hitP, shapeOf, setRow, setAt, rowAt, D.row, D.reRow, List.isPrefixOf, St.nest, St.kill, St.setRoot, St.root, List.getElem?_set_self', List.set_set, hg]; rfl) rfl (by simp [St.store1, St.storeAll, St.cellAt, St.isMem, St.root, St.wrote, St.kill, St.setRoot, TS.kill, TV.kill, C.kill, Rt.kill, hitR, hitP, shapeOf, setRow, setAt, rowAt, D.row, D.reRow, List.isPrefixOf, St.nest, St.kill, St.setRoot, St.root, List.getElem?_set_self', List.set_set, hg]; rfl) ?_
      simp only [nrm, Nat.reduceBEq, Nat.reduceBNe, reduceIte]
      refine hK _ ?_
      clear hK K
      refine TL.nil ?_
      show TC _ _ _ _ _ _
      refine TC.seq ?_
      refine TC.region ?_
      refine TL.vE (Val.move 1 rfl rfl) ?_
      refine TL.vE (Val.addO rfl rfl rfl) ?_
      refine TL.vE (Val.assign 1 rfl rfl) ?_
      refine TL.nil ?_
      show TC _ _ _ _ _ _
      refine TC.seq ?_
      refine TC.region ?_
      refine TL.vE (Val.move 1 rfl rfl) ?_
      refine TL.vE (Val.move 1 rfl rfl) ?_
      refine TL.vE (Val.move 1 rfl rfl) ?_
      refine TL.vE (by exact Val.index rfl rfl rfl rfl rfl rfl (by omega) (by simp [hLl]; omega)) ?_
      refine TL.fld ?_
      refine TL.opK rfl fun K hK => ?_
      refine OpT.store (z := 1) rfl rfl rfl rfl (by simp [St.store1, St.storeAll, St.cellAt, St.isMem, St.root, St.wrote, St.kill, St.setRoot, TS.kill, TV.kill, C.kill, Rt.kill, hitR, hitP, shapeOf, setRow, setAt, rowAt, D.row, D.reRow, List.isPrefixOf, St.nest, St.kill, St.setRoot, St.root, List.getElem?_set_self', List.set_set, hg]; rfl) rfl (by simp [St.store1, St.storeAll, St.cellAt, St.isMem, St.root, St.wrote, St.kill, St.setRoot, TS.kill, TV.kill, C.kill, Rt.kill, hitR, hitP, shapeOf, setRow, setAt, rowAt, D.row, D.reRow, List.isPrefixOf, St.nest, St.kill, St.setRoot, St.root, List.getElem?_set_self', List.set_set, hg]; rfl) ?_
      simp only [nrm, Nat.reduceBEq, Nat.reduceBNe, reduceIte]
      refine hK _ ?_
      clear hK K
      refine TL.nil ?_
      show TC _ _ _ _ _ _
      refine TC.seq ?_
      refine TC.region ?_
      refine TL.vE (Val.move 1 rfl rfl) ?_
      refine TL.vE (Val.addO rfl rfl rfl) ?_
      refine TL.vE (Val.assign 1 rfl rfl) ?_
      refine TL.nil ?_
      show TC _ _ _ _ _ _
      refine TC.seq ?_
      refine TC.region ?_
      refine TL.vE (Val.move 1 rfl rfl) ?_
      refine TL.vE (Val.move 1 rfl rfl) ?_
      refine TL.vE (by exact Val.index rfl rfl rfl rfl rfl rfl (by omega) (by simp [hLl]; omega)) ?_
      refine TL.fld ?_
      refine TL.valE rfl (by exact Val.load rfl rfl rfl (c := .own (.sl 2 (x.Tables.map dKept))) (by simp [St.store1, St.storeAll, St.cellAt, St.isMem, St.root, St.wrote, St.kill, St.setRoot, TS.kill, TV.kill, C.kill, Rt.kill, hitR, hitP, shapeOf, setRow, setAt, rowAt, D.row, D.reRow, List.isPrefixOf, St.nest, St.kill, St.setRoot, St.root, List.getElem?_set_self', List.set_set, hg]; done) rfl) (by simp only [nput, valC]; rfl) ?_
      refine TL.vE (Val.move 1 rfl rfl) ?_
      refine TL.callN (k1 := 1000000) (q0 := 0) (i0 := i) (j := 7) (yes_none rfl) rfl rfl rfl rfl rfl rfl (laws_markKeptS_f x.Tables ((k + m) + cntSlotS x.Outer + cntIntSS x.Out + cntBoolS x.Dirty + cntGuestS x.Guests + cntIntS x.Outs + 1 + 1) (by omega) (by omega) (hsx.2.2.2.2.2)) rfl rfl (by simp [St.store1, St.storeAll, St.cellAt, St.isMem, St.root, St.wrote, St.kill, St.setRoot, TS.kill, TV.kill, C.kill, Rt.kill, hitR, hitP, shapeOf, setRow, setAt, rowAt, D.row, D.reRow, List.isPrefixOf, St.nest, St.kill, St.setRoot, St.root, List.getElem?_set_self', List.set_set, hg]; rfl) (by rfl) (by repeat first | exact .nil | refine GiveNs.cons (.ro _) ?_ | refine GiveNs.cons .it ?_) rfl (by simp [St.store1, St.storeAll, St.cellAt, St.isMem, St.root, St.wrote, St.kill, St.setRoot, TS.kill, TV.kill, C.kill, Rt.kill, hitR, hitP, shapeOf, setRow, setAt, rowAt, D.row, D.reRow, List.isPrefixOf, St.nest, St.kill, St.setRoot, St.root, List.getElem?_set_self', List.set_set, hg]; rfl) (by simp only [nput]; rfl) ?_
      refine TL.vE (Val.assign 1 rfl rfl) ?_
      refine TL.nil ?_
      show TC _ _ _ _ _ _
      refine TC.seq ?_
      refine TC.region ?_
      refine TL.vE (Val.move 1 rfl rfl) ?_
      refine TL.vE (Val.move 1 rfl rfl) ?_
      refine TL.vE (Val.move 1 rfl rfl) ?_
      refine TL.vE (by exact Val.index rfl rfl rfl rfl rfl rfl (by omega) (by simp [hLl]; omega)) ?_
      refine TL.fld ?_
      refine TL.opK rfl fun K hK => ?_
      refine OpT.store (z := 1) rfl rfl rfl rfl (by simp [St.store1, St.storeAll, St.cellAt, St.isMem, St.root, St.wrote, St.kill, St.setRoot, TS.kill, TV.kill, C.kill, Rt.kill, hitR, hitP, shapeOf, setRow, setAt, rowAt, D.row, D.reRow, List.isPrefixOf, St.nest, St.kill, St.setRoot, St.root, List.getElem?_set_self', List.set_set, hg]; rfl) rfl (by simp [St.store1, St.storeAll, St.cellAt, St.isMem, St.root, St.wrote, St.kill, St.setRoot, TS.kill, TV.kill, C.kill, Rt.kill, hitR, hitP, shapeOf, setRow, setAt, rowAt, D.row, D.reRow, List.isPrefixOf, St.nest, St.kill, St.setRoot, St.root, List.getElem?_set_self', List.set_set, hg]; rfl) ?_
      simp only [nrm, Nat.reduceBEq, Nat.reduceBNe, reduceIte]
      refine hK _ ?_
      clear hK K
      refine TL.nil ?_
      show TC _ _ _ _ _ _
      refine TC.region ?_
      refine TL.vE (Val.move 1 rfl rfl) ?_
      refine TL.vE (Val.addO rfl rfl rfl) ?_
      refine TL.vE (Val.assign 1 rfl rfl) ?_
      refine TL.nil ?_
      show TC _ _ _ _ _ _
      refine TC.region ?_
      refine TL.vE (Val.move 1 rfl rfl) ?_
      refine TL.vE (Val.addO rfl rfl rfl) ?_
      refine TL.vE (Val.assign 1 rfl rfl) ?_
      refine TL.nil ?_
      first | refine Seq.normal ⟨_, ?_, i + 1, ?_, rfl, ?_⟩ | refine Seq.normal (Q := fun _ _ => True) ⟨_, ?_, i + 1, ?_, rfl, ?_⟩
      · omega
      · omega
      · exact Can.to (by repeat first | exact LessT.nil | refine LessT.drop ?_ | refine LessT.keep ?_ | refine LessT.eq (by first | rfl | (simp; done) | exact congrArg (fun z : Int => (I z : TS)) (by rw [hcs]; omega) | exact congrArg (fun z : Int => (I z : TS)) (by omega)) ?_) (.cons rfl (by simp [hs]) .nil)
    have hk9 := hb
    refine TC.exit ?_
    show TC _ _ _ _ _ _
    refine TC.seq ?_
    have hn : i = xs.length := (by simp [mix_len (mkMonS_len k xs)] at hb; omega)
    subst hn
    rw [mix_all (mkMonS_len k xs) (Nat.le_refl _), List.take_length]
    refine TC.region ?_
    refine TL.vE (Val.move 1 rfl rfl) ?_
    refine TL.vE (Val.assign 1 rfl rfl) ?_
    refine TL.nil ?_
    show TC _ _ _ _ _ _
    refine TC.ret ?_
    exact ⟨.inr rfl, [_], [_], _, [.sl 9 ((mkMonS k xs).map dMon)], rfl, by decide, rfl, by simp [refV, refC, valC, C.kill, hitR], rfl, rfl, by simp, rfl, ⟨rfl, rfl⟩⟩

theorem laws_markEntryS_f (xs : List VEntry) (k : Int) (h1 : 0 ≤ k) (h2 : k + cntEntryS xs ≤ 1000000000000000) (hmx : SmEntryS xs) : Fun2 Tryz.prog 49 (⟨false, [.sl 4 (xs.map dEntry)]⟩) [.one (.c (.ref ⟨1000000, [], 0⟩)), I k] (RP2 [.sl 4 ((mkEntryS k xs).map dEntry)] (I (k + cntEntryS xs))) := by
  refine Fun2.of Tryz.func49 rfl (by simp [Tryz.ntmps49]) fun w g0 => ?_
  simp only [Tryz.ntmps49, List.length_cons, List.length_nil, Nat.reduceAdd, Nat.reduceSub, List.replicate, List.cons_append, List.nil_append, Hand.k, pinK, pinB, if_true, if_false, Bool.false_eq_true, List.map_cons, List.map_nil]
  refine TC.seq ?_
  refine TC.region ?_
  refine TL.vE (Val.assign 1 rfl rfl) ?_
  refine TL.nil ?_
  show TC _ _ _ _ _ _
  refine TC.seq ?_
  refine TC.seq ?_
  refine TC.region ?_
  refine TL.vE (Val.assign 1 rfl rfl) ?_
  refine TL.nil ?_
  show TC _ _ _ _ _ _
  refine TC.block ?_
  refine TC.loop (fun μ st => ∃ i : Nat, (i ≤ xs.length) ∧ μ = xs.length - i ∧ Can st ⟨[.one (.c (.ref ⟨1000000, [], 0⟩)), I (k + cntFold cntEEntry (xs.take i)), .one .dead, .one .dead, .one .dead, I i, .one .dead, .one .dead, .one .dead, .one .dead, .one .dead, .one .dead, .one .dead, .one .dead, .one .dead, .one .dead, .one .dead, .one .dead, .one .dead, .one .dead, .one .dead, .one .dead, .one .dead, .one .dead, .one .dead, .one .dead, .one .dead, .one .dead, .one .dead, .one .dead, .one .dead, .one .dead, .one .dead, .one .dead, .one .dead, .one .dead, .one .dead, .one .dead, .one .dead, .one .dead, .one .dead], [(1000000, ⟨false, [.own (.sl 4 ((mix (mkEntryS k xs) xs i).map dEntry))]⟩)]⟩) (xs.length) ?_ fun μ st hI => ?_
  · refine ⟨0, by simp, by simp, ?_⟩
    exact Can.to (by repeat first | exact LessT.nil | refine LessT.drop ?_ | refine LessT.keep ?_ | refine LessT.eq (by simp [cntFold]) ?_) (.cons rfl (by simp [mix_zero]) .nil)
  · obtain ⟨i, hyp, rfl, hcan⟩ := hI
    refine TC.can hcan ?_
    clear hcan
    refine TC.seq ?_
    refine TC.seq ?_
    refine TC.region ?_
    refine TL.vE (Val.move 1 rfl rfl) ?_
    refine TL.vE (Val.move 1 rfl rfl) ?_
    refine TL.vE (by first | exact Val.len rfl rfl rfl rfl | exact Val.lenS rfl rfl rfl) ?_
    refine TL.vE (Val.lss rfl rfl rfl) ?_
    refine TL.nil ?_
    show TC _ _ _ _ _ _
    refine TC.cond rfl (fun hb => ?_) (fun hb => ?_)
    · have hk9 := hb
      refine TC.skip ?_
      show TC _ _ _ _ _ _
      refine TC.seq ?_
      refine TC.block ?_
      refine TC.seq ?_
      have hi : i < xs.length := by simpa [mix_len (mkEntryS_len k xs)] using hb
      have hlen : xs.length ≤ 2097152 := Nat.le_trans (show xs.length ≤ 1048576 from hmx) (by decide)
      obtain ⟨x, hx⟩ := at_of (xs := xs) (k := i) hi
      have hcs := cntFold_step (c := cntEEntry) hx
      have hc1 := cntFold_le cntEEntry_nn xs (i + 1)
      have hc0 := cntFold_nn cntEEntry_nn (xs.take i)
      have hcd : cntFold cntEEntry xs = cntEntryS xs := rfl
      have hg : ((mix (mkEntryS k xs) xs i).map dEntry)[i]? = some (dEntry x) := by simp [List.getElem?_map, mix_get (mkEntryS_len k xs), hx]
      have hs : ((mix (mkEntryS k xs) xs i).map dEntry).set i (dEntry (mkEEntry (k + cntFold cntEEntry (xs.take i)) x)) = ((mix (mkEntryS k xs) xs (i + 1)).map dEntry) := by rw [← mix_set (mkEntryS_len k xs) (mkFold_get mkEEntry cntEEntry k hx), List.map_set]
      have hLl : ((mix (mkEntryS k xs) xs i).map dEntry).length = xs.length := by simp [mix_len (mkEntryS_len k xs)]
      generalize ((mix (mkEntryS k xs) xs i).map dEntry) = L at *
      simp only [dEntry, rEntry, mkEEntry, cntEEntry] at hg hs hcs
      generalize hKI : cntFold cntEEntry (xs.take i) = m at *
      refine TC.region ?_
      refine TL.vE (Val.move 1 rfl rfl) ?_
      refine TL.vE (Val.move 1 rfl rfl) ?_
      refine TL.vE (Val.move 1 rfl rfl) ?_
      refine TL.vE (by exact Val.index rfl rfl rfl rfl rfl rfl (by omega) (by simp [hLl]; omega)) ?_
      refine TL.fld ?_
      refine TL.opK rfl fun K hK => ?_
      refine OpT.store (z := 1) rfl rfl rfl rfl (by simp [St.store1, St.storeAll, St.cellAt, St.isMem, St.root, St.wrote, St.kill, St.setRoot, TS.kill, TV.kill, C.kill, Rt.kill, hitR, hitP, shapeOf, setRow, setAt, rowAt, D.row, D.reRow, List.isPrefixOf, St.nest, St.kill, St.setRoot, St.root, List.getElem?_set_self', List.set_set, hg]; rfl) rfl (by simp [St.store1, St.storeAll, St.cellAt, St.isMem, St.root, St.wrote, St.kill, St.setRoot, TS.kill, TV.kill, C.kill, Rt.kill, hitR, hitP, shapeOf, setRow, setAt, rowAt, D.row, D.reRow, List.isPrefixOf, St.nest, St.kill, St.setRoot, St.root, List.getElem?_set_self', List.set_set, hg]; rfl) ?_
      simp only [nrm, Nat.reduceBEq, Nat.reduceBNe, reduceIte]
      refine hK _ ?_
      clear hK K
      refine TL.nil ?_
      show TC _ _ _ _ _ _
      refine TC.seq ?_
      refine TC.region ?_
      refine TL.vE (Val.move 1 rfl rfl) ?_
      refine TL.vE (Val.addO rfl rfl rfl) ?_
      refine TL.vE (Val.assign 1 rfl rfl) ?_
      refine TL.nil ?_
      show TC _ _ _ _ _ _
      refine TC.seq ?_
      refine TC.region ?_
      refine TL.vE (Val.move 1 rfl rfl) ?_
      refine TL.vE (Val.move 1 rfl rfl) ?_
      refine TL.vE (Val.move 1 rfl rfl) ?_
      refine TL.vE (by exact Val.index rfl rfl rfl rfl rfl rfl (by omega) (by simp [hLl]; omega)) ?_
      refine TL.fld ?_
      refine TL.opK rfl fun K hK => ?_
      refine OpT.store (z := 1) rfl rfl rfl rfl (by simp [St.store1, St.storeAll, St.cellAt, St.isMem, St.root, St.wrote, St.kill, St.setRoot, TS.kill, TV.kill, C.kill, Rt.kill, hitR, hitP, shapeOf, setRow, setAt, rowAt, D.row, D.reRow, List.isPrefixOf, St.nest, St.kill, St.setRoot, St.root, List.getElem?_set_self', List.set_set, hg]; rfl) rfl (by simp [St.store1, St.storeAll, St.cellAt, St.isMem, St.root, St.wrote, St.kill, St.setRoot, TS.kill, TV.kill, C.kill, Rt.kill, hitR, hitP, shapeOf, setRow, setAt, rowAt, D.row, D.reRow, List.isPrefixOf, St.nest, St.kill, St.setRoot, St.root, List.getElem?_set_self', List.set_set, hg]; rfl) ?_
      simp only [nrm, Nat.reduceBEq, Nat.reduceBNe, reduceIte]
      refine hK _ ?_
      clear hK K
      refine TL.nil ?_
      show TC _ _ _ _ _ _
      refine TC.seq ?_
      refine TC.region ?_
      refine TL.vE (Val.move 1 rfl rfl) ?_
      refine TL.vE (Val.addO rfl rfl rfl) ?_
      refine TL.vE (Val.assign 1 rfl rfl) ?_
      refine TL.nil ?_
      show TC _ _ _ _ _ _
      refine TC.seq ?_
      refine TC.region ?_
      refine TL.vE (Val.move 1 rfl rfl) ?_
      refine TL.vE (Val.move 1 rfl rfl) ?_
      refine TL.vE (Val.move 1 rfl rfl) ?_
      refine TL.vE (by exact Val.index rfl rfl rfl rfl rfl rfl (by omega) (by simp [hLl]; omega)) ?_
      refine TL.fld ?_
      refine TL.opK rfl fun K hK => ?_
      refine OpT.store (z := 1) rfl rfl rfl rfl (by simp [St.store1, St.storeAll, St.cellAt, St.isMem, St.root, St.wrote, St.kill, St.setRoot, TS.kill, TV.kill, C.kill, Rt.kill, hitR, hitP, shapeOf, setRow, setAt, rowAt, D.row, D.reRow, List.isPrefixOf, St.nest, St.kill, St.setRoot, St.root, List.getElem?_set_self', List.set_set, hg]; rfl) rfl (by simp [St.store1, St.storeAll, St.cellAt, St.isMem, St.root, St.wrote, St.kill, St.setRoot, TS.kill, TV.kill, C.kill, Rt.kill, hitR, hitP, shapeOf, setRow, setAt, rowAt, D.row, D.reRow, List.isPrefixOf, St.nest, St.kill, St.setRoot, St.root, List.getElem?_set_self', List.set_set, hg]; rfl) ?_
      simp only [nrm, Nat.reduceBEq, Nat.reduceBNe, reduceIte]
      refine hK _ ?_
      clear hK K
      refine TL.nil ?_
      show TC _ _ _ _ _ _
      refine TC.seq ?_
      refine TC.region ?_
      refine TL.vE (Val.move 1 rfl rfl) ?_
      refine TL.vE (Val.addO rfl rfl rfl) ?_
      refine TL.vE (Val.assign 1 rfl rfl) ?_
      refine TL.nil ?_
      show TC _ _ _ _ _ _
      refine TC.seq ?_
      refine TC.region ?_
      refine TL.vE (Val.move 1 rfl rfl) ?_
      refine TL.vE (Val.move 1 rfl rfl) ?_
      refine TL.vE (Val.move 1 rfl rfl) ?_
      refine TL.vE (by exact Val.index rfl rfl rfl rfl rfl rfl (by omega) (by simp [hLl]; omega)) ?_
      refine TL.fld ?_
      refine TL.opK rfl fun K hK => ?_
      refine OpT.store (z := 1) rfl rfl rfl rfl (by simp [St.store1, St.storeAll, St.cellAt, St.isMem, St.root, St.wrote, St.kill, St.setRoot, TS.kill, TV.kill, C.kill, Rt.kill, hitR, hitP, shapeOf, setRow, setAt, rowAt, D.row, D.reRow, List.isPrefixOf, St.nest, St.kill, St.setRoot, St.root, List.getElem?_set_self', List.set_set, hg]; rfl) rfl (by simp [St.store1, St.storeAll, St.cellAt, St.isMem, St.root, St.wrote, St.kill, St.setRoot, TS.kill, TV.kill, C.kill, Rt.kill, hitR, hitP, shapeOf, setRow, setAt, rowAt, D.row, D.reRow, List.isPrefixOf, St.nest, St.kill, St.setRoot, St.root, List.getElem?_set_self', List.set_set, hg]; rfl) ?_
      simp only [nrm, Nat.reduceBEq, Nat.reduceBNe, reduceIte]
      refine hK _ ?_
      clear hK K
      refine TL.nil ?_
      show TC _ _ _ _ _ _
      refine TC.region ?_
      refine TL.vE (Val.move 1 rfl rfl) ?_
      refine TL.vE (Val.addO rfl rfl rfl) ?_
      refine TL.vE (Val.assign 1 rfl rfl) ?_
      refine TL.nil ?_
      show TC _ _ _ _ _ _
      refine TC.region ?_
      refine TL.vE (Val.move 1 rfl rfl) ?_
      refine TL.vE (Val.addO rfl rfl rfl) ?_
      refine TL.vE (Val.assign 1 rfl rfl) ?_
      refine TL.nil ?_
      first | refine Seq.normal ⟨_, ?_, i + 1, ?_, rfl, ?_⟩ | refine Seq.normal (Q := fun _ _ => True) ⟨_, ?_, i + 1, ?_, rfl, ?_⟩
      · omega
      · omega
      · exact Can.to (by repeat first | exact LessT.nil | refine LessT.drop ?_ | refine LessT.keep ?_ | refine LessT.eq (by first | rfl | (simp; done) | exact congrArg (fun z : Int => (I z : TS)) (by rw [hcs]; omega) | exact congrArg (fun z : Int => (I z : TS)) (by omega)) ?_) (.cons rfl (by simp [hs]) .nil)
    have hk9 := hb
    refine TC.exit ?_
    show TC _ _ _ _ _ _
    refine TC.seq ?_
    have hn : i = xs.length := (by simp [mix_len (mkEntryS_len k xs)] at hb; omega)
    subst hn
    rw [mix_all (mkEntryS_len k xs) (Nat.le_refl _), List.take_length]
    refine TC.region ?_
    refine TL.vE (Val.move 1 rfl rfl) ?_
    refine TL.vE (Val.assign 1 rfl rfl) ?_
    refine TL.nil ?_
    show TC _ _ _ _ _ _
    refine TC.ret ?_
    exact ⟨.inr rfl, [_], [_], _, [.sl 4 ((mkEntryS k xs).map dEntry)], rfl, by decide, rfl, by simp [refV, refC, valC, C.kill, hitR], rfl, rfl, by simp, rfl, ⟨rfl, rfl⟩⟩

theorem laws_markHost_f (x : VHost) (k : Int) (h1 : 0 ≤ k) (h2 : k + cntVHost x ≤ 1000000000000000) (hmx : SmHost x) : Fun2 Tryz.prog 13 (⟨false, [.sl 1 (x.Memory.map dIntS), .sl 9 (x.Mons.map dMon), .sl 4 (x.Buffer.map dEntry), .sl 4 (x.IoBuffer.map dEntry)]⟩) [.one (.agg [.ref ⟨1000000, [], 0⟩, .ref ⟨1000000, [], 1⟩, .ref ⟨1000000, [], 2⟩, .ref ⟨1000000, [], 3⟩]), I k] (RP2 [.sl 1 ((mkIntSS (k) x.Memory).map dIntS), .sl 9 ((mkMonS (k + cntIntSS x.Memory) x.Mons).map dMon), .sl 4 ((mkEntryS (k + cntIntSS x.Memory + cntMonS x.Mons) x.Buffer).map dEntry), .sl 4 ((mkEntryS (k + cntIntSS x.Memory + cntMonS x.Mons + cntEntryS x.Buffer) x.IoBuffer).map dEntry)] (I (k + cntIntSS x.Memory + cntMonS x.Mons + cntEntryS x.Buffer + cntEntryS x.IoBuffer))) := by
  refine Fun2.of Tryz.func13 rfl (by simp [Tryz.ntmps13]) fun w g0 => ?_
  simp only [Tryz.ntmps13, List.length_cons, List.length_nil, Nat.reduceAdd, Nat.reduceSub, List.replicate, List.cons_append, List.nil_append, Hand.k, pinK, pinB, if_true, if_false, Bool.false_eq_true, List.map_cons, List.map_nil]
  have hq0 := cntIntSS_nn x.Memory
  have hq1 := cntMonS_nn x.Mons
  have hq2 := cntEntryS_nn x.Buffer
  have hq3 := cntEntryS_nn x.IoBuffer
  simp only [cntVHost] at h2
  refine TC.seq ?_
  refine TC.region ?_
  refine TL.opK rfl fun K hK => ?_
  first | refine OpT.box rfl rfl (z := 1) rfl (by simp) ?_ | refine OpT.boxAgg rfl rfl rfl ?_
  simp only [nrm, Nat.reduceBEq, Nat.reduceBNe, reduceIte]
  refine hK _ ?_
  clear hK K
  refine TL.vE (Val.assign 1 rfl rfl) ?_
  refine TL.nil ?_
  show TC _ _ _ _ _ _
  refine TC.seq ?_
  refine TC.region ?_
  refine TL.fld ?_
  refine TL.ld ?_
  refine TL.vE (Val.move 1 rfl rfl) ?_
  refine TL.call2 (yes_none rfl) rfl rfl rfl rfl rfl rfl (laws_markIntSS_f x.Memory (k) (by omega) (by omega) (hmx.1)) (srcs := [(1000000, 0)]) (bx := none) (.list rfl) (by repeat first | exact .nil | refine GivesAll.cons (.c (.ro _)) ?_ | refine GivesAll.cons (.c (.hand rfl)) ?_ | refine GivesAll.cons (.c (.snap rfl (by first | assumption | exact w_IntS _ | exact w_IntSS _ | exact w_SlotS _ | exact w_BoolS _ | exact w_InsS _ | exact w_GuestS _ | exact w_KeptS _ | exact w_MonS _ | exact w_EntryS _ | exact w_BareS _) rfl)) ?_ | refine GivesAll.cons (.ptr rfl) ?_ | refine GivesAll.cons (.cptr _) ?_ | refine GivesAll.cons (.fn _) ?_ | refine GivesAll.cons (.agg (by repeat first | exact .nil | refine GiveCs.cons (.ro _) ?_ | refine GiveCs.cons (.hand rfl) ?_ | refine GiveCs.cons (.snap rfl (by first | assumption | exact w_IntS _ | exact w_IntSS _ | exact w_SlotS _ | exact w_BoolS _ | exact w_InsS _ | exact w_GuestS _ | exact w_KeptS _ | exact w_MonS _ | exact w_EntryS _ | exact w_BareS _) rfl) ?_)) ?_) rfl (by simp [St.handed, killR, killP, topOf, handRow, idxOf, St.put, TS.kill, TV.kill, C.kill, boxSrc, -Option.not_isSome]; rfl) ?_
  refine TL.vE (Val.assign 1 rfl rfl) ?_
  refine TL.nil ?_
  show TC _ _ _ _ _ _
  refine TC.seq ?_
  refine TC.region ?_
  refine TL.fld ?_
  refine TL.ld ?_
  refine TL.vE (Val.move 1 rfl rfl) ?_
  refine TL.call2 (yes_none rfl) rfl rfl rfl rfl rfl rfl (laws_markMonS_f x.Mons (k + cntIntSS x.Memory) (by omega) (by omega) (hmx.2.1)) (srcs := [(1000000, 1)]) (bx := none) (.list rfl) (by repeat first | exact .nil | refine GivesAll.cons (.c (.ro _)) ?_ | refine GivesAll.cons (.c (.hand rfl)) ?_ | refine GivesAll.cons (.c (.snap rfl (by first | assumption | exact w_IntS _ | exact w_IntSS _ | exact w_SlotS _ | exact w_BoolS _ | exact w_InsS _ | exact w_GuestS _ | exact w_KeptS _ | exact w_MonS _ | exact w_EntryS _ | exact w_BareS _) rfl)) ?_ | refine GivesAll.cons (.ptr rfl) ?_ | refine GivesAll.cons (.cptr _) ?_ | refine GivesAll.cons (.fn _) ?_ | refine GivesAll.cons (.agg (by repeat first | exact .nil | refine GiveCs.cons (.ro _) ?_ | refine GiveCs.cons (.hand rfl) ?_ | refine GiveCs.cons (.snap rfl (by first | assumption | exact w_IntS _ | exact w_IntSS _ | exact w_SlotS _ | exact w_BoolS _ | exact w_InsS _ | exact w_GuestS _ | exact w_KeptS _ | exact w_MonS _ | exact w_EntryS _ | exact w_BareS _) rfl) ?_)) ?_) rfl (by simp [St.handed, killR, killP, topOf, handRow, idxOf, St.put, TS.kill, TV.kill, C.kill, boxSrc, -Option.not_isSome]; rfl) ?_
  refine TL.vE (Val.assign 1 rfl rfl) ?_
  refine TL.nil ?_
  show TC _ _ _ _ _ _
  refine TC.seq ?_
  refine TC.region ?_
  refine TL.fld ?_
  refine TL.ld ?_
  refine TL.vE (Val.move 1 rfl rfl) ?_
  refine TL.call2 (yes_none rfl) rfl rfl rfl rfl rfl rfl (laws_markEntryS_f x.Buffer (k + cntIntSS x.Memory + cntMonS x.Mons) (by omega) (by omega) (hmx.2.2.1)) (srcs := [(1000000, 2)]) (bx := none) (.list rfl) (by repeat first | exact .nil | refine GivesAll.cons (.c (.ro _)) ?_ | refine GivesAll.cons (.c (.hand rfl)) ?_ | refine GivesAll.cons (.c (.snap rfl (by first | assumption | exact w_IntS _ | exact w_IntSS _ | exact w_SlotS _ | exact w_BoolS _ | exact w_InsS _ | exact w_GuestS _ | exact w_KeptS _ | exact w_MonS _ | exact w_EntryS _ | exact w_BareS _) rfl)) ?_ | refine GivesAll.cons (.ptr rfl) ?_ | refine GivesAll.cons (.cptr _) ?_ | refine GivesAll.cons (.fn _) ?_ | refine GivesAll.cons (.agg (by repeat first | exact .nil | refine GiveCs.cons (.ro _) ?_ | refine GiveCs.cons (.hand rfl) ?_ | refine GiveCs.cons (.snap rfl (by first | assumption | exact w_IntS _ | exact w_IntSS _ | exact w_SlotS _ | exact w_BoolS _ | exact w_InsS _ | exact w_GuestS _ | exact w_KeptS _ | exact w_MonS _ | exact w_EntryS _ | exact w_BareS _) rfl) ?_)) ?_) rfl (by simp [St.handed, killR, killP, topOf, handRow, idxOf, St.put, TS.kill, TV.kill, C.kill, boxSrc, -Option.not_isSome]; rfl) ?_
  refine TL.vE (Val.assign 1 rfl rfl) ?_
  refine TL.nil ?_
  show TC _ _ _ _ _ _
  refine TC.seq ?_
  refine TC.region ?_
  refine TL.fld ?_
  refine TL.ld ?_
  refine TL.vE (Val.move 1 rfl rfl) ?_
  refine TL.call2 (yes_none rfl) rfl rfl rfl rfl rfl rfl (laws_markEntryS_f x.IoBuffer (k + cntIntSS x.Memory + cntMonS x.Mons + cntEntryS x.Buffer) (by omega) (by omega) (hmx.2.2.2)) (srcs := [(1000000, 3)]) (bx := none) (.list rfl) (by repeat first | exact .nil | refine GivesAll.cons (.c (.ro _)) ?_ | refine GivesAll.cons (.c (.hand rfl)) ?_ | refine GivesAll.cons (.c (.snap rfl (by first | assumption | exact w_IntS _ | exact w_IntSS _ | exact w_SlotS _ | exact w_BoolS _ | exact w_InsS _ | exact w_GuestS _ | exact w_KeptS _ | exact w_MonS _ | exact w_EntryS _ | exact w_BareS _) rfl)) ?_ | refine GivesAll.cons (.ptr rfl) ?_ | refine GivesAll.cons (.cptr _) ?_ | refine GivesAll.cons (.fn _) ?_ | refine GivesAll.cons (.agg (by repeat first | exact .nil | refine GiveCs.cons (.ro _) ?_ | refine GiveCs.cons (.hand rfl) ?_ | refine GiveCs.cons (.snap rfl (by first | assumption | exact w_IntS _ | exact w_IntSS _ | exact w_SlotS _ | exact w_BoolS _ | exact w_InsS _ | exact w_GuestS _ | exact w_KeptS _ | exact w_MonS _ | exact w_EntryS _ | exact w_BareS _) rfl) ?_)) ?_) rfl (by simp [St.handed, killR, killP, topOf, handRow, idxOf, St.put, TS.kill, TV.kill, C.kill, boxSrc, -Option.not_isSome]; rfl) ?_
  refine TL.vE (Val.assign 1 rfl rfl) ?_
  refine TL.nil ?_
  show TC _ _ _ _ _ _
  refine TC.seq ?_
  refine TC.region ?_
  refine TL.vE (Val.move 1 rfl rfl) ?_
  refine TL.vE (Val.assign 1 rfl rfl) ?_
  refine TL.nil ?_
  show TC _ _ _ _ _ _
  refine TC.ret ?_
  exact ⟨.inr rfl, [_], [_], _, [.sl 1 ((mkIntSS (k) x.Memory).map dIntS), .sl 9 ((mkMonS (k + cntIntSS x.Memory) x.Mons).map dMon), .sl 4 ((mkEntryS (k + cntIntSS x.Memory + cntMonS x.Mons) x.Buffer).map dEntry), .sl 4 ((mkEntryS (k + cntIntSS x.Memory + cntMonS x.Mons + cntEntryS x.Buffer) x.IoBuffer).map dEntry)], rfl, by decide, rfl, by simp [refV, refC, valC, C.kill, hitR], rfl, rfl, by simp, rfl, ⟨rfl, rfl⟩⟩

theorem laws_markBareS_f (xs : List VBare) (k : Int) (h1 : 0 ≤ k) (h2 : k + cntBareS xs ≤ 1000000000000000) (hmx : SmBareS xs) : Fun2 Tryz.prog 50 (⟨false, [.sl 4 (xs.map dBare)]⟩) [.one (.c (.ref ⟨1000000, [], 0⟩)), I k] (RP2 [.sl 4 ((mkBareS k xs).map dBare)] (I (k + cntBareS xs))) := by
  refine Fun2.of Tryz.func50 rfl (by simp [Tryz.ntmps50]) fun w g0 => ?_
  simp only [Tryz.ntmps50, List.length_cons, List.length_nil, Nat.reduceAdd, Nat.reduceSub, List.replicate, List.cons_append, List.nil_append, Hand.k, pinK, pinB, if_true, if_false, Bool.false_eq_true, List.map_cons, List.map_nil]
  refine TC.seq ?_
  refine TC.region ?_
  refine TL.vE (Val.assign 1 rfl rfl) ?_
  refine TL.nil ?_
  show TC _ _ _ _ _ _
  refine TC.seq ?_
  refine TC.seq ?_
  refine TC.region ?_
  refine TL.vE (Val.assign 1 rfl rfl) ?_
  refine TL.nil ?_
  show TC _ _ _ _ _ _
  refine TC.block ?_
  refine TC.loop (fun μ st => ∃ i : Nat, (i ≤ xs.length) ∧ μ = xs.length - i ∧ Can st ⟨[.one (.c (.ref ⟨1000000, [], 0⟩)), I (k + cntFold cntEBare (xs.take i)), .one .dead, .one .dead, .one .dead, I i, .one .dead, .one .dead, .one .dead, .one .dead, .one .dead, .one .dead, .one .dead, .one .dead, .one .dead, .one .dead, .one .dead, .one .dead, .one .dead, .one .dead, .one .dead, .one .dead, .one .dead, .one .dead, .one .dead, .one .dead, .one .dead, .one .dead, .one .dead, .one .dead, .one .dead, .one .dead, .one .dead, .one .dead, .one .dead, .one .dead, .one .dead, .one .dead, .one .dead, .one .dead, .one .dead], [(1000000, ⟨false, [.own (.sl 4 ((mix (mkBareS k xs) xs i).map dBare))]⟩)]⟩) (xs.length) ?_ fun μ st hI => ?_
  · refine ⟨0, by simp, by simp, ?_⟩
    exact Can.to (by repeat first | exact LessT.nil | refine LessT.drop ?_ | refine LessT.keep ?_ | refine LessT.eq (by simp [cntFold]) ?_) (.cons rfl (by simp [mix_zero]) .nil)
  · obtain ⟨i, hyp, rfl, hcan⟩ := hI
    refine TC.can hcan ?_
    clear hcan
    refine TC.seq ?_
    refine TC.seq ?_
    refine TC.region ?_
    refine TL.vE (Val.move 1 rfl rfl) ?_
    refine TL.vE (Val.move 1 rfl rfl) ?_
    refine TL.vE (by first | exact Val.len rfl rfl rfl rfl | exact Val.lenS rfl rfl rfl) ?_
    refine TL.vE (Val.lss rfl rfl rfl) ?_
    refine TL.nil ?_
    show TC _ _ _ _ _ _
    refine TC.cond rfl (fun hb => ?_) (fun hb => ?_)
    · have hk9 := hb
      refine TC.skip ?_
      show TC _ _ _ _ _ _
      refine TC.seq ?_
      refine TC.block ?_
      refine TC.seq ?_
      have hi : i < xs.length := by simpa [mix_len (mkBareS_len k xs)] using hb
      have hlen : xs.length ≤ 2097152 := Nat.le_trans (show xs.length ≤ 1048576 from hmx.1) (by decide)
      obtain ⟨x, hx⟩ := at_of (xs := xs) (k := i) hi
      have hcs := cntFold_step (c := cntEBare) hx
      have hc1 := cntFold_le cntEBare_nn xs (i + 1)
      have hc0 := cntFold_nn cntEBare_nn (xs.take i)
      have hcd : cntFold cntEBare xs = cntBareS xs := rfl
      have hsx : SmBare x := hmx.2 x (List.mem_of_getElem? hx)
      have hn0 := cntIntSS_nn x.Memory
      have hn1 := cntGuestS_nn x.Guests
      have hn2 := cntIntS_nn x.Outs
      have hg : ((mix (mkBareS k xs) xs i).map dBare)[i]? = some (dBare x) := by simp [List.getElem?_map, mix_get (mkBareS_len k xs), hx]
      have hs : ((mix (mkBareS k xs) xs i).map dBare).set i (dBare (mkEBare (k + cntFold cntEBare (xs.take i)) x)) = ((mix (mkBareS k xs) xs (i + 1)).map dBare) := by rw [← mix_set (mkBareS_len k xs) (mkFold_get mkEBare cntEBare k hx), List.map_set]
      have hLl : ((mix (mkBareS k xs) xs i).map dBare).length = xs.length := by simp [mix_len (mkBareS_len k xs)]
      generalize ((mix (mkBareS k xs) xs i).map dBare) = L at *
      simp only [dBare, rBare, mkEBare, cntEBare] at hg hs hcs
      generalize hKI : cntFold cntEBare (xs.take i) = m at *
      refine TC.region ?_
      refine TL.vE (Val.move 1 rfl rfl) ?_
      refine TL.vE (Val.move 1 rfl rfl) ?_
      refine TL.vE (by exact Val.index rfl rfl rfl rfl rfl rfl (by omega) (by simp [hLl]; omega)) ?_
      refine TL.fld ?_
      refine TL.valE rfl (by exact Val.load rfl rfl rfl (c := .own (.sl 1 (x.Memory.map dIntS))) (by simp [St.store1, St.storeAll, St.cellAt, St.isMem, St.root, St.wrote, St.kill, St.setRoot, TS.kill, TV.kill, C.kill, Rt.kill, hitR, hitP, shapeOf, setRow, setAt, rowAt, D.row, D.reRow, List.isPrefixOf, St.nest, St.kill, St.setRoot, St.root, List.getElem?_set_self', List.set_set, hg]; done) rfl) (by simp only [nput, valC]; rfl) ?_
      refine TL.vE (Val.move 1 rfl rfl) ?_
      refine TL.callN (k1 := 1000000) (q0 := 0) (i0 := i) (j := 0) (yes_none rfl) rfl rfl rfl rfl rfl rfl (laws_markIntSS_f x.Memory ((k + m)) (by omega) (by omega) (hsx.1)) rfl rfl (by simp [St.store1, St.storeAll, St.cellAt, St.isMem, St.root, St.wrote, St.kill, St.setRoot, TS.kill, TV.kill, C.kill, Rt.kill, hitR, hitP, shapeOf, setRow, setAt, rowAt, D.row, D.reRow, List.isPrefixOf, St.nest, St.kill, St.setRoot, St.root, List.getElem?_set_self', List.set_set, hg]; rfl) (by rfl) (by repeat first | exact .nil | refine GiveNs.cons (.ro _) ?_ | refine GiveNs.cons .it ?_) rfl (by simp [St.store1, St.storeAll, St.cellAt, St.isMem, St.root, St.wrote, St.kill, St.setRoot, TS.kill, TV.kill, C.kill, Rt.kill, hitR, hitP, shapeOf, setRow, setAt, rowAt, D.row, D.reRow, List.isPrefixOf, St.nest, St.kill, St.setRoot, St.root, List.getElem?_set_self', List.set_set, hg]; rfl) (by simp only [nput]; rfl) ?_
      refine TL.vE (Val.assign 1 rfl rfl) ?_
      refine TL.nil ?_
      show TC _ _ _ _ _ _
      refine TC.seq ?_
      refine TC.region ?_
      refine TL.vE (Val.move 1 rfl rfl) ?_
      refine TL.vE (Val.move 1 rfl rfl) ?_
      refine TL.vE (by exact Val.index rfl rfl rfl rfl rfl rfl (by omega) (by simp [hLl]; omega)) ?_
      refine TL.fld ?_
      refine TL.valE rfl (by exact Val.load rfl rfl rfl (c := .own (.sl 15 (x.Guests.map dGuest))) (by simp [St.store1, St.storeAll, St.cellAt, St.isMem, St.root, St.wrote, St.kill, St.setRoot, TS.kill, TV.kill, C.kill, Rt.kill, hitR, hitP, shapeOf, setRow, setAt, rowAt, D.row, D.reRow, List.isPrefixOf, St.nest, St.kill, St.setRoot, St.root, List.getElem?_set_self', List.set_set, hg]; done) rfl) (by simp only [nput, valC]; rfl) ?_
      refine TL.vE (Val.move 1 rfl rfl) ?_
      refine TL.callN (k1 := 1000000) (q0 := 0) (i0 := i) (j := 1) (yes_none rfl) rfl rfl rfl rfl rfl rfl (laws_markGuestS_f x.Guests ((k + m) + cntIntSS x.Memory) (by omega) (by omega) (hsx.2.1)) rfl rfl (by simp [St.store1, St.storeAll, St.cellAt, St.isMem, St.root, St.wrote, St.kill, St.setRoot, TS.kill, TV.kill, C.kill, Rt.kill, hitR, hitP, shapeOf, setRow, setAt, rowAt, D.row, D.reRow, List.isPrefixOf, St.nest, St.kill, St.setRoot, St.root, List.getElem?_set_self', List.set_set, hg]; rfl) (by rfl) (by repeat first | exact .nil | refine GiveNs.cons (.ro _) ?_ | refine GiveNs.cons .it ?_) rfl (by simp [St.store1, St.storeAll, St.cellAt, St.isMem, St.root, St.wrote, St.kill, St.setRoot, TS.kill, TV.kill, C.kill, Rt.kill, hitR, hitP, shapeOf, setRow, setAt, rowAt, D.row, D.reRow, List.isPrefixOf, St.nest, St.kill, St.setRoot, St.root, List.getElem?_set_self', List.set_set, hg]; rfl) (by simp only [nput]; rfl) ?_
      refine TL.vE (Val.assign 1 rfl rfl) ?_
      refine TL.nil ?_
      show TC _ _ _ _ _ _
      refine TC.seq ?_
      refine TC.region ?_
      refine TL.vE (Val.move 1 rfl rfl) ?_
      refine TL.vE (Val.move 1 rfl rfl) ?_
      refine TL.vE (by exact Val.index rfl rfl rfl rfl rfl rfl (by omega) (by simp [hLl]; omega)) ?_
      refine TL.fld ?_
      refine TL.valE rfl (by exact Val.load rfl rfl rfl (c := .own (.sl 1 (x.Outs.map dInt))) (by simp [St.store1, St.storeAll, St.cellAt, St.isMem, St.root, St.wrote, St.kill, St.setRoot, TS.kill, TV.kill, C.kill, Rt.kill, hitR, hitP, shapeOf, setRow, setAt, rowAt, D.row, D.reRow, List.isPrefixOf, St.nest, St.kill, St.setRoot, St.root, List.getElem?_set_self', List.set_set, hg]; done) rfl) (by simp only [nput, valC]; rfl) ?_
      refine TL.vE (Val.move 1 rfl rfl) ?_
      refine TL.callN (k1 := 1000000) (q0 := 0) (i0 := i) (j := 2) (yes_none rfl) rfl rfl rfl rfl rfl rfl (laws_markIntS_f x.Outs ((k + m) + cntIntSS x.Memory + cntGuestS x.Guests) (by omega) (by omega) (hsx.2.2)) rfl rfl (by simp [St.store1, St.storeAll, St.cellAt, St.isMem, St.root, St.wrote, St.kill, St.setRoot, TS.kill, TV.kill, C.kill, Rt.kill, hitR, hitP, shapeOf, setRow, setAt, rowAt, D.row, D.reRow, List.isPrefixOf, St.nest, St.kill, St.setRoot, St.root, List.getElem?_set_self', List.set_set, hg]; rfl) (by rfl) (by repeat first | exact .nil | refine GiveNs.cons (.ro _) ?_ | refine GiveNs.cons .it ?_) rfl (by simp [St.store1, St.storeAll, St.cellAt, St.isMem, St.root, St.wrote, St.kill, St.setRoot, TS.kill, TV.kill, C.kill, Rt.kill, hitR, hitP, shapeOf, setRow, setAt, rowAt, D.row, D.reRow, List.isPrefixOf, St.nest, St.kill, St.setRoot, St.root, List.getElem?_set_self', List.set_set, hg]; rfl) (by simp only [nput]; rfl) ?_
      refine TL.vE (Val.assign 1 rfl rfl) ?_
      refine TL.nil ?_
      show TC _ _ _ _ _ _
      refine TC.seq ?_
      refine TC.region ?_
      refine TL.vE (Val.move 1 rfl rfl) ?_
      refine TL.vE (Val.move 1 rfl rfl) ?_
      refine TL.vE (Val.move 1 rfl rfl) ?_
      refine TL.vE (by exact Val.index rfl rfl rfl rfl rfl rfl (by omega) (by simp [hLl]; omega)) ?_
      refine TL.fld ?_
      refine TL.opK rfl fun K hK => ?_
      refine OpT.store (z := 1) rfl rfl rfl rfl (by simp [St.store1, St.storeAll, St.cellAt, St.isMem, St.root, St.wrote, St.kill, St.setRoot, TS.kill, TV.kill, C.kill, Rt.kill, hitR, hitP, shapeOf, setRow, setAt, rowAt, D.row, D.reRow, List.isPrefixOf, St.nest, St.kill, St.setRoot, St.root, List.getElem?_set_self', List.set_set, hg]; rfl) rfl (by simp [St.store1, St.storeAll, St.cellAt, St.isMem, St.root, St.wrote, St.kill, St.setRoot, TS.kill, TV.kill, C.kill, Rt.kill, hitR, hitP, shapeOf, setRow, setAt, rowAt, D.row, D.reRow, List.isPrefixOf, St.nest, St.kill, St.setRoot, St.root, List.getElem?_set_self', List.set_set, hg]; rfl) ?_
      simp only [nrm, Nat.reduceBEq, Nat.reduceBNe, reduceIte]
      refine hK _ ?_
      clear hK K
      refine TL.nil ?_
      show TC _ _ _ _ _ _
      refine TC.region ?_
      refine TL.vE (Val.move 1 rfl rfl) ?_
      refine TL.vE (Val.addO rfl rfl rfl) ?_
      refine TL.vE (Val.assign 1 rfl rfl) ?_
      refine TL.nil ?_
      show TC _ _ _ _ _ _
      refine TC.region ?_
      refine TL.vE (Val.move 1 rfl rfl) ?_
      refine TL.vE (Val.addO rfl rfl rfl) ?_
      refine TL.vE (Val.assign 1 rfl rfl) ?_
      refine TL.nil ?_
      first | refine Seq.normal ⟨_, ?_, i + 1, ?_, rfl, ?_⟩ | refine Seq.normal (Q := fun _ _ => True) ⟨_, ?_, i + 1, ?_, rfl, ?_⟩
      · omega
      · omega
      · exact Can.to (by repeat first | exact LessT.nil | refine LessT.drop ?_ | refine LessT.keep ?_ | refine LessT.eq (by first | rfl | (simp; done) | exact congrArg (fun z : Int => (I z : TS)) (by rw [hcs]; omega) | exact congrArg (fun z : Int => (I z : TS)) (by omega)) ?_) (.cons rfl (by simp [hs]) .nil)
    have hk9 := hb
    refine TC.exit ?_
    show TC _ _ _ _ _ _
    refine TC.seq ?_
    have hn : i = xs.length := (by simp [mix_len (mkBareS_len k xs)] at hb; omega)
    subst hn
    rw [mix_all (mkBareS_len k xs) (Nat.le_refl _), List.take_length]
    refine TC.region ?_
    refine TL.vE (Val.move 1 rfl rfl) ?_
    refine TL.vE (Val.assign 1 rfl rfl) ?_
    refine TL.nil ?_
    show TC _ _ _ _ _ _
    refine TC.ret ?_
    exact ⟨.inr rfl, [_], [_], _, [.sl 4 ((mkBareS k xs).map dBare)], rfl, by decide, rfl, by simp [refV, refC, valC, C.kill, hitR], rfl, rfl, by simp, rfl, ⟨rfl, rfl⟩⟩

theorem laws_markSaved_f (x : VSaved) (k : Int) (h1 : 0 ≤ k) (h2 : k + cntVSaved x ≤ 1000000000000000) (hmx : SmSaved x) : Fun2 Tryz.prog 14 (⟨false, [.sl 4 (x.Mons.map dBare), .sl 1 (x.Traps.map dInt), .sl 1 (x.Own.map dInt)]⟩) [.one (.agg [.ref ⟨1000000, [], 0⟩, .ref ⟨1000000, [], 1⟩, .ref ⟨1000000, [], 2⟩]), I k] (RP2 [.sl 4 ((mkBareS (k) x.Mons).map dBare), .sl 1 ((mkIntS (k + cntBareS x.Mons) x.Traps).map dInt), .sl 1 ((mkIntS (k + cntBareS x.Mons + cntIntS x.Traps) x.Own).map dInt)] (I (k + cntBareS x.Mons + cntIntS x.Traps + cntIntS x.Own))) := by
  refine Fun2.of Tryz.func14 rfl (by simp [Tryz.ntmps14]) fun w g0 => ?_
  simp only [Tryz.ntmps14, List.length_cons, List.length_nil, Nat.reduceAdd, Nat.reduceSub, List.replicate, List.cons_append, List.nil_append, Hand.k, pinK, pinB, if_true, if_false, Bool.false_eq_true, List.map_cons, List.map_nil]
  have hq0 := cntBareS_nn x.Mons
  have hq1 := cntIntS_nn x.Traps
  have hq2 := cntIntS_nn x.Own
  simp only [cntVSaved] at h2
  refine TC.seq ?_
  refine TC.region ?_
  refine TL.opK rfl fun K hK => ?_
  first | refine OpT.box rfl rfl (z := 1) rfl (by simp) ?_ | refine OpT.boxAgg rfl rfl rfl ?_
  simp only [nrm, Nat.reduceBEq, Nat.reduceBNe, reduceIte]
  refine hK _ ?_
  clear hK K
  refine TL.vE (Val.assign 1 rfl rfl) ?_
  refine TL.nil ?_
  show TC _ _ _ _ _ _
  refine TC.seq ?_
  refine TC.region ?_
  refine TL.fld ?_
  refine TL.ld ?_
  refine TL.vE (Val.move 1 rfl rfl) ?_
  refine TL.call2 (yes_none rfl) rfl rfl rfl rfl rfl rfl (laws_markBareS_f x.Mons (k) (by omega) (by omega) (hmx.1)) (srcs := [(1000000, 0)]) (bx := none) (.list rfl) (by repeat first | exact .nil | refine GivesAll.cons (.c (.ro _)) ?_ | refine GivesAll.cons (.c (.hand rfl)) ?_ | refine GivesAll.cons (.c (.snap rfl (by first | assumption | exact w_IntS _ | exact w_IntSS _ | exact w_SlotS _ | exact w_BoolS _ | exact w_InsS _ | exact w_GuestS _ | exact w_KeptS _ | exact w_MonS _ | exact w_EntryS _ | exact w_BareS _) rfl)) ?_ | refine GivesAll.cons (.ptr rfl) ?_ | refine GivesAll.cons (.cptr _) ?_ | refine GivesAll.cons (.fn _) ?_ | refine GivesAll.cons (.agg (by repeat first | exact .nil | refine GiveCs.cons (.ro _) ?_ | refine GiveCs.cons (.hand rfl) ?_ | refine GiveCs.cons (.snap rfl (by first | assumption | exact w_IntS _ | exact w_IntSS _ | exact w_SlotS _ | exact w_BoolS _ | exact w_InsS _ | exact w_GuestS _ | exact w_KeptS _ | exact w_MonS _ | exact w_EntryS _ | exact w_BareS _) rfl) ?_)) ?_) rfl (by simp [St.handed, killR, killP, topOf, handRow, idxOf, St.put, TS.kill, TV.kill, C.kill, boxSrc, -Option.not_isSome]; rfl) ?_
  refine TL.vE (Val.assign 1 rfl rfl) ?_
  refine TL.nil ?_
  show TC _ _ _ _ _ _
  refine TC.seq ?_
  refine TC.region ?_
  refine TL.fld ?_
  refine TL.ld ?_
  refine TL.vE (Val.move 1 rfl rfl) ?_
  refine TL.call2 (yes_none rfl) rfl rfl rfl rfl rfl rfl (laws_markIntS_f x.Traps (k + cntBareS x.Mons) (by omega) (by omega) (hmx.2.1)) (srcs := [(1000000, 1)]) (bx := none) (.list rfl) (by repeat first | exact .nil | refine GivesAll.cons (.c (.ro _)) ?_ | refine GivesAll.cons (.c (.hand rfl)) ?_ | refine GivesAll.cons (.c (.snap rfl (by first | assumption | exact w_IntS _ | exact w_IntSS _ | exact w_SlotS _ | exact w_BoolS _ | exact w_InsS _ | exact w_GuestS _ | exact w_KeptS _ | exact w_MonS _ | exact w_EntryS _ | exact w_BareS _) rfl)) ?_ | refine GivesAll.cons (.ptr rfl) ?_ | refine GivesAll.cons (.cptr _) ?_ | refine GivesAll.cons (.fn _) ?_ | refine GivesAll.cons (.agg (by repeat first | exact .nil | refine GiveCs.cons (.ro _) ?_ | refine GiveCs.cons (.hand rfl) ?_ | refine GiveCs.cons (.snap rfl (by first | assumption | exact w_IntS _ | exact w_IntSS _ | exact w_SlotS _ | exact w_BoolS _ | exact w_InsS _ | exact w_GuestS _ | exact w_KeptS _ | exact w_MonS _ | exact w_EntryS _ | exact w_BareS _) rfl) ?_)) ?_) rfl (by simp [St.handed, killR, killP, topOf, handRow, idxOf, St.put, TS.kill, TV.kill, C.kill, boxSrc, -Option.not_isSome]; rfl) ?_
  refine TL.vE (Val.assign 1 rfl rfl) ?_
  refine TL.nil ?_
  show TC _ _ _ _ _ _
  refine TC.seq ?_
  refine TC.region ?_
  refine TL.fld ?_
  refine TL.ld ?_
  refine TL.vE (Val.move 1 rfl rfl) ?_
  refine TL.call2 (yes_none rfl) rfl rfl rfl rfl rfl rfl (laws_markIntS_f x.Own (k + cntBareS x.Mons + cntIntS x.Traps) (by omega) (by omega) (hmx.2.2)) (srcs := [(1000000, 2)]) (bx := none) (.list rfl) (by repeat first | exact .nil | refine GivesAll.cons (.c (.ro _)) ?_ | refine GivesAll.cons (.c (.hand rfl)) ?_ | refine GivesAll.cons (.c (.snap rfl (by first | assumption | exact w_IntS _ | exact w_IntSS _ | exact w_SlotS _ | exact w_BoolS _ | exact w_InsS _ | exact w_GuestS _ | exact w_KeptS _ | exact w_MonS _ | exact w_EntryS _ | exact w_BareS _) rfl)) ?_ | refine GivesAll.cons (.ptr rfl) ?_ | refine GivesAll.cons (.cptr _) ?_ | refine GivesAll.cons (.fn _) ?_ | refine GivesAll.cons (.agg (by repeat first | exact .nil | refine GiveCs.cons (.ro _) ?_ | refine GiveCs.cons (.hand rfl) ?_ | refine GiveCs.cons (.snap rfl (by first | assumption | exact w_IntS _ | exact w_IntSS _ | exact w_SlotS _ | exact w_BoolS _ | exact w_InsS _ | exact w_GuestS _ | exact w_KeptS _ | exact w_MonS _ | exact w_EntryS _ | exact w_BareS _) rfl) ?_)) ?_) rfl (by simp [St.handed, killR, killP, topOf, handRow, idxOf, St.put, TS.kill, TV.kill, C.kill, boxSrc, -Option.not_isSome]; rfl) ?_
  refine TL.vE (Val.assign 1 rfl rfl) ?_
  refine TL.nil ?_
  show TC _ _ _ _ _ _
  refine TC.seq ?_
  refine TC.region ?_
  refine TL.vE (Val.move 1 rfl rfl) ?_
  refine TL.vE (Val.assign 1 rfl rfl) ?_
  refine TL.nil ?_
  show TC _ _ _ _ _ _
  refine TC.ret ?_
  exact ⟨.inr rfl, [_], [_], _, [.sl 4 ((mkBareS (k) x.Mons).map dBare), .sl 1 ((mkIntS (k + cntBareS x.Mons) x.Traps).map dInt), .sl 1 ((mkIntS (k + cntBareS x.Mons + cntIntS x.Traps) x.Own).map dInt)], rfl, by decide, rfl, by simp [refV, refC, valC, C.kill, hitR], rfl, rfl, by simp, rfl, ⟨rfl, rfl⟩⟩
end Go.Proofs.YtldollgpolklpaaGreat.T

