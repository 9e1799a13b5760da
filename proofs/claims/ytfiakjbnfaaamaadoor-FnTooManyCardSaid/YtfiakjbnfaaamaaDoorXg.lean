/- The numbers that the laws draw. PRINTED by gen.py out of spec_names.py. -/
import Derived.Test.YtfiakjbnfaaamaaDoorT3
import Derived.Test.YtfiakjbnfaaamaaDoorWa
import Derived.Test.YtfiakjbnfaaamaaDoorWz
namespace Go.Proofs.YtfiakjbnfaaamaaDoor.T
open Go
set_option linter.unusedVariables false
set_option linter.unusedSimpArgs false
set_option maxRecDepth 100000
set_option maxHeartbeats 1000000


/-- Twelve places. -/
def RDraw : Res → Prop := fun r => ∃ p : List Int, p.length = 12 ∧ (∀ x ∈ p, 0 ≤ x ∧ x < 10000) ∧ RL 1 (p.map dInt) r
theorem RDraw.ok {k : Nat} {r : Res} (h : RDraw r) : okS k r.row.length (r.val k) = true := by
  obtain ⟨p, _, _, rfl⟩ := h
  simp [okS, okV, okC]
-- loop.example/g00975/laws.big: params ['[]uint8'] results ['bool'] ('arr', [('app', 'Go.ResultVar.tmp', ['2'])])
theorem laws_big_f (ds : List D) : Fun Tryd.prog 5 [L 1 ds] (RV (.bool (decide (1048576 < (ds.length : Int))))) := by
  refine Fun.of Tryd.func5 rfl (by simp [Tryd.ntmps5]) fun w g0 => ?_
  simp only [Tryd.ntmps5, List.length_cons, List.length_nil, Nat.reduceAdd, Nat.reduceSub, List.replicate, List.cons_append, List.nil_append]
  refine TC.seq ?_
  -- region 0
  refine TC.region ?_
  refine TL.vE (Val.assign 1 rfl rfl) ?_
  refine TL.nil ?_
  show TC _ _ _ _ _ _
  refine TC.seq ?_
  -- region 1
  refine TC.region ?_
  refine TL.vE (Val.move 1 rfl rfl) ?_
  refine TL.vE (by first | exact Val.len rfl rfl rfl rfl | exact Val.lenS rfl rfl rfl) ?_
  refine TL.vE (Val.gtr rfl rfl rfl) ?_
  refine TL.vE (Val.assign 1 rfl rfl) ?_
  refine TL.nil ?_
  show TC _ _ _ _ _ _
  refine TC.ret ?_
  exact ⟨.inr rfl, [_], [_], _, rfl, by decide, rfl, by simp [refV, refC, valC], rfl, rfl⟩

-- loop.example/g00975/spec.DrawPlaces: params ['[]uint8'] results ['[]int'] ('arr', [('app', 'Go.ResultVar.tmp', ['2'])])
theorem spec_DrawPlaces_f (ds : List D) (hby : isBytes ds) (hn : ds.length ≤ 1048576) : Fun Tryd.prog 6 [L 1 ds] (RDraw) := by
  refine Fun.of Tryd.func6 rfl (by simp [Tryd.ntmps6]) fun w g0 => ?_
  simp only [Tryd.ntmps6, List.length_cons, List.length_nil, Nat.reduceAdd, Nat.reduceSub, List.replicate, List.cons_append, List.nil_append]
  refine TC.seq ?_
  -- region 0
  refine TC.region ?_
  refine TL.vE (Val.assign 1 rfl rfl) ?_
  refine TL.nil ?_
  show TC _ _ _ _ _ _
  refine TC.seq ?_
  -- region 1
  refine TC.region ?_
  refine TL.vE (Val.move 1 rfl rfl) ?_
  refine TL.newCur (yes_none rfl) rfl rfl hby hn rfl (by decide) fun ch0 => ?_
  simp only [curRow]
  simp only [nrm, Nat.reduceBEq, Nat.reduceBNe, reduceIte]
  refine TL.vE (Val.assign 1 rfl rfl) ?_
  refine TL.nil ?_
  show TC _ _ _ _ _ _
  refine TC.seq ?_
  -- region 2
  refine TC.region ?_
  refine TL.opK rfl fun K hK => ?_
  refine OpT.build0 (sz := 1) rfl rfl rfl rfl ?_ -- 8
  simp only [nrm, Nat.reduceBEq, Nat.reduceBNe, reduceIte]
  refine hK _ ?_
  clear hK K
  refine TL.vE (Val.assign 1 rfl rfl) ?_
  refine TL.nil ?_
  show TC _ _ _ _ _ _
  refine TC.seq ?_
  refine TC.seq ?_
  -- region 3
  refine TC.region ?_
  refine TL.vE (Val.assign 1 rfl rfl) ?_
  refine TL.nil ?_
  show TC _ _ _ _ _ _
  refine TC.block ?_
  refine TC.loop (fun μ st => ∃ (j : Nat) (p : List Int) (ci ch : Int), (j ≤ 12 ∧ p.length = j ∧ (∀ x ∈ p, 0 ≤ x ∧ x < 10000) ∧ 0 ≤ ci) ∧ μ = 12 - j ∧ Can st ⟨[.one .dead, .one .dead, .one .dead, .one (.ptr ⟨7, [], 0⟩), .one (.c (.ref ⟨4, [], 0⟩)), I j, .one .dead, .one .dead, .one .dead, .one .dead, .one .dead, .one .dead, .one .dead, .one .dead, .one .dead, .one .dead, .one .dead, .one .dead, .one .dead], [(4, ⟨false, [.own (.sl 1 (p.map dInt))]⟩), (7, ⟨true, [.ro (.sl 1 ds), .own (.v (.int .i64 ci)), .own (.v (.int .i64 ch))]⟩)]⟩) (12) ?_ fun μ st hI => ?_
  · refine ⟨0, [], 0, ch0, ⟨by omega, rfl, by simp, by omega⟩, by simp, ?_⟩
    exact Can.name 8 4 (by simp only [St.name, nameS, nameV, nameC, nameR, List.map_cons, List.map_nil, Nat.reduceEqDiff, if_true, if_false, ne_eq, not_true, not_false, and_true, and_false, true_and, false_and, reduceIte]; rfl) (Can.to (by repeat first | exact LessT.nil | refine LessT.drop ?_ | refine LessT.keep ?_ | refine LessT.eq (by first | rfl | (simp; done) | (simp; omega) | simp_all) ?_) (.cons rfl rfl (.cons rfl rfl .nil)))
  · obtain ⟨j, p, ci, ch, hyp, rfl, hcan⟩ := hI
    refine TC.can hcan ?_
    clear hcan
    refine TC.seq ?_
    refine TC.seq ?_
    -- region 4
    refine TC.region ?_
    refine TL.vE (Val.move 1 rfl rfl) ?_
    refine TL.vE (Val.lss rfl rfl rfl) ?_
    refine TL.nil ?_
    show TC _ _ _ _ _ _
    refine TC.cond rfl (fun hb => ?_) (fun hb => ?_)
    · refine TC.skip ?_
      show TC _ _ _ _ _ _
      refine TC.seq ?_
      refine TC.block ?_
      have hj : j < 12 := by simp at hb; omega
      have hpl := hyp.2.1
      -- region 6
      refine TC.region ?_
      refine TL.vE (Val.move 1 rfl rfl) ?_
      refine TL.vE (Val.move 1 rfl rfl) ?_
      refine TL.below (yes_none rfl) rfl rfl rfl rfl hby hn hyp.2.2.2 fun z ci' ch' hz1 hz2 hci => ?_
      simp only [St.cur, curRow]
      simp only [nrm, Nat.reduceBEq, Nat.reduceBNe, reduceIte]
      refine TL.opK rfl fun K hK => ?_
      refine OpT.buildP rfl rfl (xs := [(Go.Operand.tmp 15)]) rfl rfl rfl rfl (sz := 1) rfl rfl rfl (by decide) (by decide) ?_ -- 16
      simp only [nrm, Nat.reduceBEq, Nat.reduceBNe, reduceIte]
      refine hK _ ?_
      clear hK K
      refine TL.opK rfl fun K hK => ?_
      refine OpT.appendE rfl rfl rfl (sz := 1) rfl rfl rfl (by simp [isPlain, D.row, elD, cellD]) rfl rfl rfl rfl rfl rfl rfl (by simp; try omega) ?_ -- 17
      simp only [nrm, Nat.reduceBEq, Nat.reduceBNe, reduceIte]
      refine hK _ ?_
      clear hK K
      refine TL.vE (Val.assign 1 rfl rfl) ?_
      refine TL.nil ?_
      show TC _ _ _ _ _ _
      -- region 5
      refine TC.region ?_
      refine TL.vE (Val.move 1 rfl rfl) ?_
      refine TL.vE (Val.add rfl rfl rfl (by first | omega | (simp only [List.length_map]; omega)) (by first | omega | (simp only [List.length_map]; omega))) ?_
      refine TL.vE (Val.assign 1 rfl rfl) ?_
      refine TL.nil ?_
      first | refine Seq.normal ⟨_, ?_, j + 1, p ++ [z], ci', ch', ?_, rfl, ?_⟩ | refine Seq.normal (Q := fun _ _ => True) ⟨_, ?_, j + 1, p ++ [z], ci', ch', ?_, rfl, ?_⟩
      · omega
      · exact ⟨by omega, by simp [hpl], fun x hx => by rcases List.mem_append.1 hx with h | h; exact hyp.2.2.1 x h; rw [List.mem_singleton.1 h]; exact ⟨hz1, hz2⟩, hci⟩
      · exact Can.name 17 4 (by simp only [St.name, nameS, nameV, nameC, nameR, List.map_cons, List.map_nil, Nat.reduceEqDiff, if_true, if_false, ne_eq, not_true, not_false, and_true, and_false, true_and, false_and, reduceIte]; rfl) (Can.to (by repeat first | exact LessT.nil | refine LessT.drop ?_ | refine LessT.keep ?_ | refine LessT.eq (by first | rfl | (simp; done) | (simp; omega) | simp_all) ?_) (.cons rfl (by simp [elD, cellD]) (.cons rfl rfl .nil)))
    · refine TC.exit ?_
      -- exit 0
      show TC _ _ _ _ _ _
      refine TC.seq ?_
      have hj : j = 12 := by simp at hb; omega
      have hpl := hyp.2.1
      -- region 7
      refine TC.region ?_
      refine TL.vE (Val.move 1 rfl rfl) ?_
      refine TL.vE (Val.assign 1 rfl rfl) ?_
      refine TL.nil ?_
      show TC _ _ _ _ _ _
      refine TC.ret ?_
      exact ⟨.inr rfl, [_], [_], _, rfl, by decide, rfl, by simp [refV, refC, valC], rfl, ⟨p, by omega, hyp.2.2.1, rfl⟩⟩
end Go.Proofs.YtfiakjbnfaaamaaDoor.T

