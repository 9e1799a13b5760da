/- Marks of hosts, read again. PRINTED by gen.py out of spec_host.py. -/
import Derived.Test.YtldollgpolklpaaT3
import Derived.Test.YtldollgpolklpaaZd
namespace Go.Proofs.Ytldollgpolklpaa.T
open Go
set_option linter.unusedVariables false
set_option linter.unusedSimpArgs false
set_option maxRecDepth 100000
set_option maxHeartbeats 4000000

-- loop.example/g00975/laws.heldIntS: params ['[]int', 'int'] results ['int'] ('arr', [('app', 'Go.ResultVar.tmp', ['4'])])
theorem laws_heldIntS_f (xs : List Int) (k : Int) (h1 : 0 ≤ k) (h2 : k + cntIntS xs ≤ 1000000000000000) (hmx : SmIntS xs) : Fun Try.prog 16 [L 1 ((mkIntS k xs).map dInt), I k] (RV (.int .i64 (k + cntIntS xs))) := by
  refine Fun.of Try.func16 rfl (by simp [Try.ntmps16]) fun w g0 => ?_
  simp only [Try.ntmps16, List.length_cons, List.length_nil, Nat.reduceAdd, Nat.reduceSub, List.replicate, List.cons_append, List.nil_append]
  refine TC.seq ?_
  -- region 0
  refine TC.region ?_
  refine TL.vE (Val.assign 1 rfl rfl) ?_
  refine TL.nil ?_
  show TC _ _ _ _ _ _
  refine TC.seq ?_
  refine TC.seq ?_
  -- region 1
  refine TC.region ?_
  refine TL.vE (Val.assign 1 rfl rfl) ?_
  refine TL.nil ?_
  show TC _ _ _ _ _ _
  refine TC.block ?_
  refine TC.loop (fun μ st => ∃ i : Nat, (i ≤ xs.length) ∧ μ = xs.length - i ∧ Can st ⟨[L 1 ((mkIntS k xs).map dInt), I (k + cntFold cntEInt (xs.take i)), .one .dead, .one .dead, .one .dead, I i, .one .dead, .one .dead, .one .dead, .one .dead, .one .dead, .one .dead, .one .dead, .one .dead, .one .dead, .one .dead, .one .dead, .one .dead, .one .dead, .one .dead, .one .dead], []⟩) (xs.length) ?_ fun μ st hI => ?_
  · refine ⟨0, by simp, by simp, ?_⟩
    exact Can.to (by repeat first | exact LessT.nil | refine LessT.drop ?_ | refine LessT.keep ?_ | refine LessT.eq (by simp [cntFold]) ?_) .nil
  · obtain ⟨i, hyp, rfl, hcan⟩ := hI
    refine TC.can hcan ?_
    clear hcan
    refine TC.seq ?_
    refine TC.seq ?_
    -- region 2
    refine TC.region ?_
    refine TL.vE (Val.move 1 rfl rfl) ?_
    refine TL.vE (Val.move 1 rfl rfl) ?_
    refine TL.vE (by first | exact Val.len rfl rfl rfl rfl | exact Val.lenS rfl rfl rfl) ?_
    refine TL.vE (Val.lss rfl rfl rfl) ?_
    refine TL.nil ?_
    show TC _ _ _ _ _ _
    refine TC.cond rfl (fun hb => ?_) (fun hb => ?_)
    · have hk9 := hb
      refine TC.skip ?_
      show TC _ _ _ _ _ _
      refine TC.seq ?_
      refine TC.block ?_
      refine TC.seq ?_
      refine TC.seq ?_
      have hi : i < xs.length := by simpa [mkIntS_len] using hb
      have hlen : xs.length ≤ 2097152 := Nat.le_trans (show xs.length ≤ 1048576 from hmx) (by decide)
      obtain ⟨x, hx⟩ := at_of (xs := xs) (k := i) hi
      have hcs := cntFold_step (c := cntEInt) hx
      have hc1 := cntFold_le cntEInt_nn xs (i + 1)
      have hc0 := cntFold_nn cntEInt_nn (xs.take i)
      have hcd : cntFold cntEInt xs = cntIntS xs := rfl
      have hg : (mkIntS k xs)[i]? = some (mkEInt (k + cntFold cntEInt (xs.take i)) x) := mkFold_get mkEInt cntEInt k hx
      generalize hKI : cntFold cntEInt (xs.take i) = m at *
      simp only [cntEInt] at hcs
      -- region 4
      refine TC.region ?_
      refine TL.vE (Val.move 1 rfl rfl) ?_
      refine TL.vE (Val.move 1 rfl rfl) ?_
      refine TL.vE (by exact Val.indexC (d := dInt (mkEInt (k + m) x)) rfl rfl rfl rfl rfl (by omega) (by simp [hg])) ?_
      refine TL.valE rfl (by first | exact Val.load rfl rfl rfl rfl rfl | exact Val.loadC rfl rfl rfl) (by simp only [nput, valC]; rfl) ?_
      refine TL.vE (Val.move 1 rfl rfl) ?_
      refine TL.vE (Val.neq rfl rfl rfl) ?_
      refine TL.nil ?_
      show TC _ _ _ _ _ _
      refine TC.cond rfl (fun hb => ?_) (fun hb => ?_)
      · have hk17 := hb
        refine TC.seq ?_
        (exfalso; first | omega | (simp [mkEInt] at hb; done) | (simp [mkEInt] at hb; omega) | (simp at hb; omega))
      have hk17 := hb
      refine TC.skip ?_
      show TC _ _ _ _ _ _
      -- region 6
      refine TC.region ?_
      refine TL.vE (Val.move 1 rfl rfl) ?_
      refine TL.vE (Val.add rfl rfl rfl (by first | omega | (simp only [List.length_map]; omega)) (by first | omega | (simp only [List.length_map]; omega))) ?_
      refine TL.vE (Val.assign 1 rfl rfl) ?_
      refine TL.nil ?_
      show TC _ _ _ _ _ _
      -- region 3
      refine TC.region ?_
      refine TL.vE (Val.move 1 rfl rfl) ?_
      refine TL.vE (Val.add rfl rfl rfl (by first | omega | (simp only [List.length_map]; omega)) (by first | omega | (simp only [List.length_map]; omega))) ?_
      refine TL.vE (Val.assign 1 rfl rfl) ?_
      refine TL.nil ?_
      first | refine Seq.normal ⟨_, ?_, i + 1, ?_, rfl, ?_⟩ | refine Seq.normal (Q := fun _ _ => True) ⟨_, ?_, i + 1, ?_, rfl, ?_⟩
      · omega
      · omega
      · exact Can.to (by repeat first | exact LessT.nil | refine LessT.drop ?_ | refine LessT.keep ?_ | refine LessT.eq (by first | rfl | (simp; done) | exact congrArg (fun z : Int => (I z : TS)) (by rw [hcs]; omega) | exact congrArg (fun z : Int => (I z : TS)) (by omega)) ?_) .nil
    have hk9 := hb
    refine TC.exit ?_
    -- exit 0
    show TC _ _ _ _ _ _
    refine TC.seq ?_
    -- region 7
    refine TC.region ?_
    refine TL.vE (Val.move 1 rfl rfl) ?_
    refine TL.vE (Val.assign 1 rfl rfl) ?_
    refine TL.nil ?_
    show TC _ _ _ _ _ _
    refine TC.ret ?_
    exact ⟨.inr rfl, [_], [_], _, rfl, by decide, rfl, by simp [refV, refC, valC, C.kill, hitR], rfl, resV (by have hn : i = xs.length := (by simp [mkIntS_len] at hb; omega); subst hn; rw [List.take_length]; rfl)⟩
end Go.Proofs.Ytldollgpolklpaa.T

