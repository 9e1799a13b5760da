/- Scripts compared. PRINTED by gen.py out of spec_script2.py. -/
import Derived.Test.YtljoagkclakjmaaUb
import Derived.Test.YtljoagkclakjmaaTx
namespace Go.Proofs.Ytljoagkclakjmaa.T
open Go
set_option linter.unusedVariables false
set_option linter.unusedSimpArgs false
set_option maxRecDepth 100000

-- slices.Equal[[]loop.example/g00975/impl.Ins,loop.example/g00975/impl.Ins]: params ['[]impl.Ins', '[]impl.Ins'] results ['bool'] ('arr', [('app', 'Go.ResultVar.tmp', ['4'])])
theorem slices_Equal_Ins_f (xs ys : List VIns) : Fun Try.prog 58 [L 2 (xs.map dIns), L 2 (ys.map dIns)] (RV (.bool (decide (xs = ys)))) := by
  refine Fun.of Try.func58 rfl (by simp [Try.ntmps58]) fun w g0 => ?_
  simp only [Try.ntmps58, List.length_cons, List.length_nil, Nat.reduceAdd, Nat.reduceSub, List.replicate, List.cons_append, List.nil_append]
  refine TC.most (i := 0) rfl rfl fun hm0 => ?_
  simp only [most, List.length_map] at hm0
  refine TC.seq ?_
  -- region 0
  refine TC.region ?_
  refine TL.valE rfl (Val.assign 1 rfl rfl) (by simp only [St.put, List.set_cons_succ, List.set_cons_zero]; rfl) ?_
  refine TL.nil ?_
  show TC _ _ _ _ _ _
  refine TC.seq ?_
  refine TC.seq ?_
  -- region 1
  refine TC.region ?_
  refine TL.valE rfl (Val.move 1 rfl rfl) (by simp only [St.put, List.set_cons_succ, List.set_cons_zero]; rfl) ?_
  refine TL.valE rfl (by first | exact Val.len rfl rfl rfl rfl | exact Val.lenS rfl rfl rfl) (by simp only [St.put, List.set_cons_succ, List.set_cons_zero]; rfl) ?_
  refine TL.valE rfl (Val.move 1 rfl rfl) (by simp only [St.put, List.set_cons_succ, List.set_cons_zero]; rfl) ?_
  refine TL.valE rfl (by first | exact Val.len rfl rfl rfl rfl | exact Val.lenS rfl rfl rfl) (by simp only [St.put, List.set_cons_succ, List.set_cons_zero]; rfl) ?_
  refine TL.valE rfl (Val.neq rfl rfl rfl) (by simp only [St.put, List.set_cons_succ, List.set_cons_zero]; rfl) ?_
  refine TL.nil ?_
  show TC _ _ _ _ _ _
  refine TC.cond rfl (fun hb => ?_) (fun hb => ?_)
  · refine TC.seq ?_
    -- region 2
    refine TC.region ?_
    refine TL.valE rfl (Val.assign 1 rfl rfl) (by simp only [St.put, List.set_cons_succ, List.set_cons_zero]; rfl) ?_
    refine TL.nil ?_
    show TC _ _ _ _ _ _
    refine TC.ret ?_
    exact ⟨.inr rfl, [_], [_], _, rfl, by decide, rfl, by simp [refV, refC, valC], rfl, resV (by simp at *; intro e; subst e; simp at hb)⟩
  · refine TC.skip ?_
    show TC _ _ _ _ _ _
    refine TC.seq ?_
    refine TC.seq ?_
    have hl : xs.length = ys.length := by simp at hb; omega
    -- region 3
    refine TC.region ?_
    refine TL.valE rfl (Val.move 1 rfl rfl) (by simp only [St.put, List.set_cons_succ, List.set_cons_zero]; rfl) ?_
    refine TL.valE rfl (by first | exact Val.len rfl rfl rfl rfl | exact Val.lenS rfl rfl rfl) (by simp only [St.put, List.set_cons_succ, List.set_cons_zero]; rfl) ?_
    refine TL.valE rfl (Val.move 1 rfl rfl) (by simp only [St.put, List.set_cons_succ, List.set_cons_zero]; rfl) ?_
    refine TL.nil ?_
    show TC _ _ _ _ _ _
    refine TC.block ?_
    refine TC.loop (fun μ st => ∃ k : Nat, (k ≤ xs.length ∧ xs.take k = ys.take k) ∧ μ = xs.length - k ∧ Can st ⟨[L 2 (xs.map dIns), L 2 (ys.map dIns), .one .dead, .one .dead, .one .dead, .one .dead, .one .dead, .one .dead, .one .dead, .one .dead, .one .dead, L 2 (xs.map dIns), I (xs.map dIns).length, I k, .one .dead, .one .dead, .one .dead, .one .dead, .one .dead, .one .dead, .one .dead, .one .dead, .one .dead, .one .dead, .one .dead, .one .dead], []⟩) (xs.length) ?_ fun μ st hI => ?_
    · refine ⟨0, by simp, by simp, ?_⟩
      exact Can.to (by repeat first | exact LessT.nil | refine LessT.drop ?_ | refine LessT.keep ?_ | refine LessT.eq (by simp) ?_) (by repeat first | exact .nil | refine .cons rfl rfl ?_)
    · obtain ⟨k, hyp, rfl, hcan⟩ := hI
      refine TC.can hcan ?_
      clear hcan
      refine TC.seq ?_
      -- region 4
      refine TC.region ?_
      refine TL.valE rfl (Val.lss rfl rfl rfl) (by simp only [St.put, List.set_cons_succ, List.set_cons_zero]; rfl) ?_
      refine TL.nil ?_
      show TC _ _ _ _ _ _
      refine TC.seq ?_
      refine TC.cond rfl (fun hb => ?_) (fun hb => ?_)
      · refine TC.skip ?_
        show TC _ _ _ _ _ _
        refine TC.seq ?_
        refine TC.block ?_
        refine TC.seq ?_
        have hk : k < xs.length := by simpa using hb
        obtain ⟨x, hx⟩ := at_of (xs := xs) (k := k) hk
        obtain ⟨y, hy⟩ := at_of (xs := ys) (k := k) (by omega)
        -- region 5
        refine TC.region ?_
        refine TL.valE rfl (Val.move 1 rfl rfl) (by simp only [St.put, List.set_cons_succ, List.set_cons_zero]; rfl) ?_
        refine TL.valE rfl (Val.assign 1 rfl rfl) (by simp only [St.put, List.set_cons_succ, List.set_cons_zero]; rfl) ?_
        refine TL.nil ?_
        show TC _ _ _ _ _ _
        refine TC.seq ?_
        -- region 6
        refine TC.regionQ rfl (by decide +kernel) ?_
        refine TQ.valE rfl (Val.move 1 rfl rfl) (by simp only [St.put, List.set_cons_succ, List.set_cons_zero]; rfl) ?_
        refine TQ.valE rfl (Val.move 1 rfl rfl) (by simp only [St.put, List.set_cons_succ, List.set_cons_zero]; rfl) ?_
        refine TQ.valE rfl (by exact Val.indexC (d := dIns x) rfl rfl rfl rfl rfl (by omega) (by simp [hx])) (by simp only [St.put, List.set_cons_succ, List.set_cons_zero]; rfl) ?_
        refine TQ.valE rfl (by first | exact Val.load rfl rfl rfl rfl rfl | exact Val.loadC rfl rfl rfl | exact Val.loadAgg rfl rfl rfl rfl rfl rfl | exact Val.loadCAgg rfl rfl rfl rfl (Nat.le_of_ble_eq_true rfl)) (by simp only [St.put, List.set_cons_succ, List.set_cons_zero]; rfl) ?_
        refine TQ.valE rfl (Val.move 1 rfl rfl) (by simp only [St.put, List.set_cons_succ, List.set_cons_zero]; rfl) ?_
        refine TQ.valE rfl (Val.move 1 rfl rfl) (by simp only [St.put, List.set_cons_succ, List.set_cons_zero]; rfl) ?_
        refine TQ.valE rfl (by exact Val.indexC (d := dIns y) rfl rfl rfl rfl rfl (by omega) (by simp [hy])) (by simp only [St.put, List.set_cons_succ, List.set_cons_zero]; rfl) ?_
        refine TQ.valE rfl (by first | exact Val.load rfl rfl rfl rfl rfl | exact Val.loadC rfl rfl rfl | exact Val.loadAgg rfl rfl rfl rfl rfl rfl | exact Val.loadCAgg rfl rfl rfl rfl (Nat.le_of_ble_eq_true rfl)) (by simp only [St.put, List.set_cons_succ, List.set_cons_zero]; rfl) ?_
        refine TQ.valE rfl (Val.neqA rfl rfl rfl rfl rfl rfl (by kernel_rfl) (by kernel_rfl) rfl) (by simp only [St.put, List.set_cons_succ, List.set_cons_zero]; rfl) ?_
        refine TQ.nil ?_
        show TC _ _ _ _ _ _
        refine TC.cond rfl (fun hb => ?_) (fun hb => ?_)
        · refine TC.seq ?_
          -- region 7
          refine TC.region ?_
          refine TL.valE rfl (Val.assign 1 rfl rfl) (by simp only [St.put, List.set_cons_succ, List.set_cons_zero]; rfl) ?_
          refine TL.nil ?_
          show TC _ _ _ _ _ _
          refine TC.ret ?_
          exact ⟨.inr rfl, [_], [_], _, rfl, by decide, rfl, by simp [refV, refC, valC], rfl, resV (by simp at *; exact eq_off hx hy (by rintro rfl; cases x; simp [eqVs, eqV] at hb))⟩
        · refine TC.skip ?_
          show TC _ _ _ _ _ _
          -- region 8
          refine TC.region ?_
          refine TL.valE rfl (Val.add rfl rfl rfl (by first | omega | (simp only [List.length_map]; omega)) (by first | omega | (simp only [List.length_map]; omega))) (by simp only [St.put, List.set_cons_succ, List.set_cons_zero]; rfl) ?_
          refine TL.valE rfl (Val.move 1 rfl rfl) (by simp only [St.put, List.set_cons_succ, List.set_cons_zero]; rfl) ?_
          refine TL.nil ?_
          refine Seq.normal ⟨_, ?_, k + 1, ?_, rfl, ?_⟩
          · omega
          · exact ⟨by omega, eq_step hyp.2 hx (by have e : x = y := (by cases x; cases y; simp_all [eqVs, eqV]); rw [e]; exact hy)⟩
          · exact Can.to (by repeat first | exact LessT.nil | refine LessT.drop ?_ | refine LessT.keep ?_ | refine LessT.eq (by simp) ?_) (by repeat first | exact .nil | refine .cons rfl rfl ?_)
      · refine TC.exit ?_
        -- exit 0
        show TC _ _ _ _ _ _
        refine TC.seq ?_
        -- region 9
        refine TC.region ?_
        refine TL.valE rfl (Val.assign 1 rfl rfl) (by simp only [St.put, List.set_cons_succ, List.set_cons_zero]; rfl) ?_
        refine TL.nil ?_
        show TC _ _ _ _ _ _
        refine TC.ret ?_
        exact ⟨.inr rfl, [_], [_], _, rfl, by decide, rfl, by simp [refV, refC, valC], rfl, resV (by simp at *; exact eq_all hl hyp.2 hb)⟩

-- slices.Equal[[]loop.example/g00975/impl.Act,loop.example/g00975/impl.Act]: params ['[]impl.Act', '[]impl.Act'] results ['bool'] ('arr', [('app', 'Go.ResultVar.tmp', ['4'])])
theorem slices_Equal_Act_f (xs ys : List VAct) : Fun Try.prog 51 [L 6 (xs.map dAct), L 6 (ys.map dAct)] (RV (.bool (decide (xs = ys)))) := by
  refine Fun.of Try.func51 rfl (by simp [Try.ntmps51]) fun w g0 => ?_
  simp only [Try.ntmps51, List.length_cons, List.length_nil, Nat.reduceAdd, Nat.reduceSub, List.replicate, List.cons_append, List.nil_append]
  refine TC.most (i := 0) rfl rfl fun hm0 => ?_
  simp only [most, List.length_map] at hm0
  refine TC.seq ?_
  -- region 0
  refine TC.region ?_
  refine TL.valE rfl (Val.assign 1 rfl rfl) (by simp only [St.put, List.set_cons_succ, List.set_cons_zero]; rfl) ?_
  refine TL.nil ?_
  show TC _ _ _ _ _ _
  refine TC.seq ?_
  refine TC.seq ?_
  -- region 1
  refine TC.region ?_
  refine TL.valE rfl (Val.move 1 rfl rfl) (by simp only [St.put, List.set_cons_succ, List.set_cons_zero]; rfl) ?_
  refine TL.valE rfl (by first | exact Val.len rfl rfl rfl rfl | exact Val.lenS rfl rfl rfl) (by simp only [St.put, List.set_cons_succ, List.set_cons_zero]; rfl) ?_
  refine TL.valE rfl (Val.move 1 rfl rfl) (by simp only [St.put, List.set_cons_succ, List.set_cons_zero]; rfl) ?_
  refine TL.valE rfl (by first | exact Val.len rfl rfl rfl rfl | exact Val.lenS rfl rfl rfl) (by simp only [St.put, List.set_cons_succ, List.set_cons_zero]; rfl) ?_
  refine TL.valE rfl (Val.neq rfl rfl rfl) (by simp only [St.put, List.set_cons_succ, List.set_cons_zero]; rfl) ?_
  refine TL.nil ?_
  show TC _ _ _ _ _ _
  refine TC.cond rfl (fun hb => ?_) (fun hb => ?_)
  · refine TC.seq ?_
    -- region 2
    refine TC.region ?_
    refine TL.valE rfl (Val.assign 1 rfl rfl) (by simp only [St.put, List.set_cons_succ, List.set_cons_zero]; rfl) ?_
    refine TL.nil ?_
    show TC _ _ _ _ _ _
    refine TC.ret ?_
    exact ⟨.inr rfl, [_], [_], _, rfl, by decide, rfl, by simp [refV, refC, valC], rfl, resV (by simp at *; intro e; subst e; simp at hb)⟩
  · refine TC.skip ?_
    show TC _ _ _ _ _ _
    refine TC.seq ?_
    refine TC.seq ?_
    have hl : xs.length = ys.length := by simp at hb; omega
    -- region 3
    refine TC.region ?_
    refine TL.valE rfl (Val.move 1 rfl rfl) (by simp only [St.put, List.set_cons_succ, List.set_cons_zero]; rfl) ?_
    refine TL.valE rfl (by first | exact Val.len rfl rfl rfl rfl | exact Val.lenS rfl rfl rfl) (by simp only [St.put, List.set_cons_succ, List.set_cons_zero]; rfl) ?_
    refine TL.valE rfl (Val.move 1 rfl rfl) (by simp only [St.put, List.set_cons_succ, List.set_cons_zero]; rfl) ?_
    refine TL.nil ?_
    show TC _ _ _ _ _ _
    refine TC.block ?_
    refine TC.loop (fun μ st => ∃ k : Nat, (k ≤ xs.length ∧ xs.take k = ys.take k) ∧ μ = xs.length - k ∧ Can st ⟨[L 6 (xs.map dAct), L 6 (ys.map dAct), .one .dead, .one .dead, .one .dead, .one .dead, .one .dead, .one .dead, .one .dead, .one .dead, .one .dead, L 6 (xs.map dAct), I (xs.map dAct).length, I k, .one .dead, .one .dead, .one .dead, .one .dead, .one .dead, .one .dead, .one .dead, .one .dead, .one .dead, .one .dead, .one .dead, .one .dead], []⟩) (xs.length) ?_ fun μ st hI => ?_
    · refine ⟨0, by simp, by simp, ?_⟩
      exact Can.to (by repeat first | exact LessT.nil | refine LessT.drop ?_ | refine LessT.keep ?_ | refine LessT.eq (by simp) ?_) (by repeat first | exact .nil | refine .cons rfl rfl ?_)
    · obtain ⟨k, hyp, rfl, hcan⟩ := hI
      refine TC.can hcan ?_
      clear hcan
      refine TC.seq ?_
      -- region 4
      refine TC.region ?_
      refine TL.valE rfl (Val.lss rfl rfl rfl) (by simp only [St.put, List.set_cons_succ, List.set_cons_zero]; rfl) ?_
      refine TL.nil ?_
      show TC _ _ _ _ _ _
      refine TC.seq ?_
      refine TC.cond rfl (fun hb => ?_) (fun hb => ?_)
      · refine TC.skip ?_
        show TC _ _ _ _ _ _
        refine TC.seq ?_
        refine TC.block ?_
        refine TC.seq ?_
        have hk : k < xs.length := by simpa using hb
        obtain ⟨x, hx⟩ := at_of (xs := xs) (k := k) hk
        obtain ⟨y, hy⟩ := at_of (xs := ys) (k := k) (by omega)
        -- region 5
        refine TC.region ?_
        refine TL.valE rfl (Val.move 1 rfl rfl) (by simp only [St.put, List.set_cons_succ, List.set_cons_zero]; rfl) ?_
        refine TL.valE rfl (Val.assign 1 rfl rfl) (by simp only [St.put, List.set_cons_succ, List.set_cons_zero]; rfl) ?_
        refine TL.nil ?_
        show TC _ _ _ _ _ _
        refine TC.seq ?_
        -- region 6
        refine TC.regionQ rfl (by decide +kernel) ?_
        refine TQ.valE rfl (Val.move 1 rfl rfl) (by simp only [St.put, List.set_cons_succ, List.set_cons_zero]; rfl) ?_
        refine TQ.valE rfl (Val.move 1 rfl rfl) (by simp only [St.put, List.set_cons_succ, List.set_cons_zero]; rfl) ?_
        refine TQ.valE rfl (by exact Val.indexC (d := dAct x) rfl rfl rfl rfl rfl (by omega) (by simp [hx])) (by simp only [St.put, List.set_cons_succ, List.set_cons_zero]; rfl) ?_
        refine TQ.valE rfl (by first | exact Val.load rfl rfl rfl rfl rfl | exact Val.loadC rfl rfl rfl | exact Val.loadAgg rfl rfl rfl rfl rfl rfl | exact Val.loadCAgg rfl rfl rfl rfl (Nat.le_of_ble_eq_true rfl)) (by simp only [St.put, List.set_cons_succ, List.set_cons_zero]; rfl) ?_
        refine TQ.valE rfl (Val.move 1 rfl rfl) (by simp only [St.put, List.set_cons_succ, List.set_cons_zero]; rfl) ?_
        refine TQ.valE rfl (Val.move 1 rfl rfl) (by simp only [St.put, List.set_cons_succ, List.set_cons_zero]; rfl) ?_
        refine TQ.valE rfl (by exact Val.indexC (d := dAct y) rfl rfl rfl rfl rfl (by omega) (by simp [hy])) (by simp only [St.put, List.set_cons_succ, List.set_cons_zero]; rfl) ?_
        refine TQ.valE rfl (by first | exact Val.load rfl rfl rfl rfl rfl | exact Val.loadC rfl rfl rfl | exact Val.loadAgg rfl rfl rfl rfl rfl rfl | exact Val.loadCAgg rfl rfl rfl rfl (Nat.le_of_ble_eq_true rfl)) (by simp only [St.put, List.set_cons_succ, List.set_cons_zero]; rfl) ?_
        refine TQ.valE rfl (Val.neqA rfl rfl rfl rfl rfl rfl (by kernel_rfl) (by kernel_rfl) rfl) (by simp only [St.put, List.set_cons_succ, List.set_cons_zero]; rfl) ?_
        refine TQ.nil ?_
        show TC _ _ _ _ _ _
        refine TC.cond rfl (fun hb => ?_) (fun hb => ?_)
        · refine TC.seq ?_
          -- region 7
          refine TC.region ?_
          refine TL.valE rfl (Val.assign 1 rfl rfl) (by simp only [St.put, List.set_cons_succ, List.set_cons_zero]; rfl) ?_
          refine TL.nil ?_
          show TC _ _ _ _ _ _
          refine TC.ret ?_
          exact ⟨.inr rfl, [_], [_], _, rfl, by decide, rfl, by simp [refV, refC, valC], rfl, resV (by simp at *; exact eq_off hx hy (by rintro rfl; cases x; simp [eqVs, eqV] at hb))⟩
        · refine TC.skip ?_
          show TC _ _ _ _ _ _
          -- region 8
          refine TC.region ?_
          refine TL.valE rfl (Val.add rfl rfl rfl (by first | omega | (simp only [List.length_map]; omega)) (by first | omega | (simp only [List.length_map]; omega))) (by simp only [St.put, List.set_cons_succ, List.set_cons_zero]; rfl) ?_
          refine TL.valE rfl (Val.move 1 rfl rfl) (by simp only [St.put, List.set_cons_succ, List.set_cons_zero]; rfl) ?_
          refine TL.nil ?_
          refine Seq.normal ⟨_, ?_, k + 1, ?_, rfl, ?_⟩
          · omega
          · exact ⟨by omega, eq_step hyp.2 hx (by have e : x = y := (by cases x; cases y; simp_all [eqVs, eqV]); rw [e]; exact hy)⟩
          · exact Can.to (by repeat first | exact LessT.nil | refine LessT.drop ?_ | refine LessT.keep ?_ | refine LessT.eq (by simp) ?_) (by repeat first | exact .nil | refine .cons rfl rfl ?_)
      · refine TC.exit ?_
        -- exit 0
        show TC _ _ _ _ _ _
        refine TC.seq ?_
        -- region 9
        refine TC.region ?_
        refine TL.valE rfl (Val.assign 1 rfl rfl) (by simp only [St.put, List.set_cons_succ, List.set_cons_zero]; rfl) ?_
        refine TL.nil ?_
        show TC _ _ _ _ _ _
        refine TC.ret ?_
        exact ⟨.inr rfl, [_], [_], _, rfl, by decide, rfl, by simp [refV, refC, valC], rfl, resV (by simp at *; exact eq_all hl hyp.2 hb)⟩

-- loop.example/g00975/spec.SameProg: params ['[]impl.Ins', '[]impl.Ins'] results ['bool'] ('arr', [('app', 'Go.ResultVar.tmp', ['4'])])
theorem spec_SameProg_f (xs ys : List VIns) : Fun Try.prog 45 [L 2 (xs.map dIns), L 2 (ys.map dIns)] (RV (.bool (decide (xs = ys)))) := by
  refine Fun.of Try.func45 rfl (by simp [Try.ntmps45]) fun w g0 => ?_
  simp only [Try.ntmps45, List.length_cons, List.length_nil, Nat.reduceAdd, Nat.reduceSub, List.replicate, List.cons_append, List.nil_append]
  refine TC.most (i := 0) rfl rfl fun hm0 => ?_
  simp only [most, List.length_map] at hm0
  refine TC.seq ?_
  -- region 0
  refine TC.region ?_
  refine TL.valE rfl (Val.assign 1 rfl rfl) (by simp only [St.put, List.set_cons_succ, List.set_cons_zero]; rfl) ?_
  refine TL.nil ?_
  show TC _ _ _ _ _ _
  refine TC.seq ?_
  refine TC.seq ?_
  -- region 1
  refine TC.region ?_
  refine TL.valE rfl (Val.move 1 rfl rfl) (by simp only [St.put, List.set_cons_succ, List.set_cons_zero]; rfl) ?_
  refine TL.valE rfl (by first | exact Val.len rfl rfl rfl rfl | exact Val.lenS rfl rfl rfl) (by simp only [St.put, List.set_cons_succ, List.set_cons_zero]; rfl) ?_
  refine TL.valE rfl (Val.move 1 rfl rfl) (by simp only [St.put, List.set_cons_succ, List.set_cons_zero]; rfl) ?_
  refine TL.valE rfl (by first | exact Val.len rfl rfl rfl rfl | exact Val.lenS rfl rfl rfl) (by simp only [St.put, List.set_cons_succ, List.set_cons_zero]; rfl) ?_
  refine TL.valE rfl (Val.neq rfl rfl rfl) (by simp only [St.put, List.set_cons_succ, List.set_cons_zero]; rfl) ?_
  refine TL.nil ?_
  show TC _ _ _ _ _ _
  refine TC.cond rfl (fun hb => ?_) (fun hb => ?_)
  · refine TC.seq ?_
    -- region 2
    refine TC.region ?_
    refine TL.valE rfl (Val.assign 1 rfl rfl) (by simp only [St.put, List.set_cons_succ, List.set_cons_zero]; rfl) ?_
    refine TL.nil ?_
    show TC _ _ _ _ _ _
    refine TC.ret ?_
    exact ⟨.inr rfl, [_], [_], _, rfl, by decide, rfl, by simp [refV, refC, valC], rfl, resV (by simp at *; intro e; subst e; simp at hb)⟩
  · refine TC.skip ?_
    show TC _ _ _ _ _ _
    refine TC.seq ?_
    refine TC.seq ?_
    have hl : xs.length = ys.length := by simp at hb; omega
    -- region 3
    refine TC.region ?_
    refine TL.valE rfl (Val.assign 1 rfl rfl) (by simp only [St.put, List.set_cons_succ, List.set_cons_zero]; rfl) ?_
    refine TL.nil ?_
    show TC _ _ _ _ _ _
    refine TC.block ?_
    refine TC.loop (fun μ st => ∃ k : Nat, (k ≤ xs.length ∧ xs.take k = ys.take k) ∧ μ = xs.length - k ∧ Can st ⟨[L 2 (xs.map dIns), L 2 (ys.map dIns), .one .dead, .one .dead, .one .dead, I k, .one .dead, .one .dead, .one .dead, .one .dead, .one .dead, .one .dead, .one .dead, .one .dead, .one .dead, .one .dead, .one .dead, .one .dead, .one .dead, .one .dead, .one .dead, .one .dead, .one .dead, .one .dead, .one .dead, .one .dead], []⟩) (xs.length) ?_ fun μ st hI => ?_
    · refine ⟨0, by simp, by simp, ?_⟩
      exact Can.to (by repeat first | exact LessT.nil | refine LessT.drop ?_ | refine LessT.keep ?_ | refine LessT.eq (by simp) ?_) (by repeat first | exact .nil | refine .cons rfl rfl ?_)
    · obtain ⟨k, hyp, rfl, hcan⟩ := hI
      refine TC.can hcan ?_
      clear hcan
      refine TC.seq ?_
      refine TC.seq ?_
      -- region 4
      refine TC.region ?_
      refine TL.valE rfl (Val.move 1 rfl rfl) (by simp only [St.put, List.set_cons_succ, List.set_cons_zero]; rfl) ?_
      refine TL.valE rfl (Val.move 1 rfl rfl) (by simp only [St.put, List.set_cons_succ, List.set_cons_zero]; rfl) ?_
      refine TL.valE rfl (by first | exact Val.len rfl rfl rfl rfl | exact Val.lenS rfl rfl rfl) (by simp only [St.put, List.set_cons_succ, List.set_cons_zero]; rfl) ?_
      refine TL.valE rfl (Val.lss rfl rfl rfl) (by simp only [St.put, List.set_cons_succ, List.set_cons_zero]; rfl) ?_
      refine TL.nil ?_
      show TC _ _ _ _ _ _
      refine TC.cond rfl (fun hb => ?_) (fun hb => ?_)
      · refine TC.skip ?_
        show TC _ _ _ _ _ _
        refine TC.seq ?_
        refine TC.block ?_
        refine TC.seq ?_
        have hk : k < xs.length := by simpa using hb
        obtain ⟨x, hx⟩ := at_of (xs := xs) (k := k) hk
        obtain ⟨y, hy⟩ := at_of (xs := ys) (k := k) (by omega)
        -- region 6
        refine TC.regionQ rfl (by decide +kernel) ?_
        refine TQ.valE rfl (Val.move 1 rfl rfl) (by simp only [St.put, List.set_cons_succ, List.set_cons_zero]; rfl) ?_
        refine TQ.valE rfl (Val.move 1 rfl rfl) (by simp only [St.put, List.set_cons_succ, List.set_cons_zero]; rfl) ?_
        refine TQ.valE rfl (by exact Val.indexC (d := dIns x) rfl rfl rfl rfl rfl (by omega) (by simp [hx])) (by simp only [St.put, List.set_cons_succ, List.set_cons_zero]; rfl) ?_
        refine TQ.valE rfl (by first | exact Val.load rfl rfl rfl rfl rfl | exact Val.loadC rfl rfl rfl | exact Val.loadAgg rfl rfl rfl rfl rfl rfl | exact Val.loadCAgg rfl rfl rfl rfl (Nat.le_of_ble_eq_true rfl)) (by simp only [St.put, List.set_cons_succ, List.set_cons_zero]; rfl) ?_
        refine TQ.valE rfl (Val.move 1 rfl rfl) (by simp only [St.put, List.set_cons_succ, List.set_cons_zero]; rfl) ?_
        refine TQ.valE rfl (Val.move 1 rfl rfl) (by simp only [St.put, List.set_cons_succ, List.set_cons_zero]; rfl) ?_
        refine TQ.valE rfl (by exact Val.indexC (d := dIns y) rfl rfl rfl rfl rfl (by omega) (by simp [hy])) (by simp only [St.put, List.set_cons_succ, List.set_cons_zero]; rfl) ?_
        refine TQ.valE rfl (by first | exact Val.load rfl rfl rfl rfl rfl | exact Val.loadC rfl rfl rfl | exact Val.loadAgg rfl rfl rfl rfl rfl rfl | exact Val.loadCAgg rfl rfl rfl rfl (Nat.le_of_ble_eq_true rfl)) (by simp only [St.put, List.set_cons_succ, List.set_cons_zero]; rfl) ?_
        refine TQ.valE rfl (Val.neqA rfl rfl rfl rfl rfl rfl (by kernel_rfl) (by kernel_rfl) rfl) (by simp only [St.put, List.set_cons_succ, List.set_cons_zero]; rfl) ?_
        refine TQ.nil ?_
        show TC _ _ _ _ _ _
        refine TC.cond rfl (fun hb => ?_) (fun hb => ?_)
        · refine TC.seq ?_
          -- region 7
          refine TC.region ?_
          refine TL.valE rfl (Val.assign 1 rfl rfl) (by simp only [St.put, List.set_cons_succ, List.set_cons_zero]; rfl) ?_
          refine TL.nil ?_
          show TC _ _ _ _ _ _
          refine TC.ret ?_
          exact ⟨.inr rfl, [_], [_], _, rfl, by decide, rfl, by simp [refV, refC, valC], rfl, resV (by simp at *; exact eq_off hx hy (by rintro rfl; cases x; simp [eqVs, eqV] at hb))⟩
        · refine TC.skip ?_
          show TC _ _ _ _ _ _
          -- region 5
          refine TC.region ?_
          refine TL.valE rfl (Val.move 1 rfl rfl) (by simp only [St.put, List.set_cons_succ, List.set_cons_zero]; rfl) ?_
          refine TL.valE rfl (Val.add rfl rfl rfl (by first | omega | (simp only [List.length_map]; omega)) (by first | omega | (simp only [List.length_map]; omega))) (by simp only [St.put, List.set_cons_succ, List.set_cons_zero]; rfl) ?_
          refine TL.valE rfl (Val.assign 1 rfl rfl) (by simp only [St.put, List.set_cons_succ, List.set_cons_zero]; rfl) ?_
          refine TL.nil ?_
          refine Seq.normal ⟨_, ?_, k + 1, ?_, rfl, ?_⟩
          · omega
          · exact ⟨by omega, eq_step hyp.2 hx (by have e : x = y := (by cases x; cases y; simp_all [eqVs, eqV]); rw [e]; exact hy)⟩
          · exact Can.to (by repeat first | exact LessT.nil | refine LessT.drop ?_ | refine LessT.keep ?_ | refine LessT.eq (by simp) ?_) (by repeat first | exact .nil | refine .cons rfl rfl ?_)
      · refine TC.exit ?_
        -- exit 0
        show TC _ _ _ _ _ _
        refine TC.seq ?_
        -- region 8
        refine TC.region ?_
        refine TL.valE rfl (Val.assign 1 rfl rfl) (by simp only [St.put, List.set_cons_succ, List.set_cons_zero]; rfl) ?_
        refine TL.nil ?_
        show TC _ _ _ _ _ _
        refine TC.ret ?_
        exact ⟨.inr rfl, [_], [_], _, rfl, by decide, rfl, by simp [refV, refC, valC], rfl, resV (by simp at *; exact eq_all hl hyp.2 hb)⟩

-- loop.example/g00975/impl.SameProg: params ['[]impl.Ins', '[]impl.Ins'] results ['bool'] ('arr', [('app', 'Go.ResultVar.tmp', ['4'])])
theorem impl_SameProg_f (xs ys : List VIns) : Fun Try.prog 49 [L 2 (xs.map dIns), L 2 (ys.map dIns)] (RV (.bool (decide (xs = ys)))) := by
  refine Fun.of Try.func49 rfl (by simp [Try.ntmps49]) fun w g0 => ?_
  simp only [Try.ntmps49, List.length_cons, List.length_nil, Nat.reduceAdd, Nat.reduceSub, List.replicate, List.cons_append, List.nil_append]
  refine TC.seq ?_
  -- region 0
  refine TC.region ?_
  refine TL.valE rfl (Val.assign 1 rfl rfl) (by simp only [St.put, List.set_cons_succ, List.set_cons_zero]; rfl) ?_
  refine TL.nil ?_
  show TC _ _ _ _ _ _
  refine TC.seq ?_
  -- region 1
  refine TC.region ?_
  refine TL.valE rfl (Val.move 1 rfl rfl) (by simp only [St.put, List.set_cons_succ, List.set_cons_zero]; rfl) ?_
  refine TL.valE rfl (Val.move 1 rfl rfl) (by simp only [St.put, List.set_cons_succ, List.set_cons_zero]; rfl) ?_
  refine TL.callF (yes_none rfl) rfl rfl rfl rfl rfl rfl (slices_Equal_Ins_f xs ys) (by repeat first | exact .nil | refine Snaps.cons (.ro _) ?_ | refine Snaps.cons (.aggRo rfl) ?_ | refine Snaps.cons (.cptr _) ?_ | refine Snaps.cons (.fn _) ?_ | refine Snaps.cons (.ownRef rfl (by first | assumption | exact w_InsS _ | exact w_InsSS _ | exact w_InsSSS _ | exact w_ActS _)) ?_ | refine Snaps.cons (.aggR (by repeat first | exact .nil | refine SnapCs.cons (.ro _) ?_ | refine SnapCs.cons (.ref rfl (by first | assumption | exact w_InsS _ | exact w_InsSS _ | exact w_InsSSS _ | exact w_ActS _)) ?_)) ?_) rfl (by simp only [St.put, List.set_cons_succ, List.set_cons_zero]; rfl) ?_
  refine TL.valE rfl (Val.assign 1 rfl rfl) (by simp only [St.put, List.set_cons_succ, List.set_cons_zero]; rfl) ?_
  refine TL.nil ?_
  show TC _ _ _ _ _ _
  refine TC.ret ?_
  exact ⟨.inr rfl, [_], [_], _, rfl, by decide, rfl, by simp [refV, refC, valC], rfl, rfl⟩

-- slices.EqualFunc[[][]loop.example/g00975/impl.Ins,[][]loop.example/g00975/impl.Ins,[]loop.example/g00975/impl.Ins,[]loop.example/g00975/impl.Ins]: params ['[][]impl.Ins', '[][]impl.Ins', 'func([]impl.Ins, []impl.Ins) bool'] results ['bool'] ('arr', [('app', 'Go.ResultVar.tmp', ['6'])])
theorem slices_EqualFunc_InsS_f (xs ys : List (List VIns)) : Fun Try.prog 48 [L 1 (xs.map dInsS), L 1 (ys.map dInsS), .fn 49 []] (RV (.bool (decide (xs = ys)))) := by
  refine Fun.of Try.func48 rfl (by simp [Try.ntmps48]) fun w g0 => ?_
  simp only [Try.ntmps48, List.length_cons, List.length_nil, Nat.reduceAdd, Nat.reduceSub, List.replicate, List.cons_append, List.nil_append]
  refine TC.most (i := 0) rfl rfl fun hm0 => ?_
  simp only [most, List.length_map] at hm0
  refine TC.seq ?_
  -- region 0
  refine TC.region ?_
  refine TL.valE rfl (Val.assign 1 rfl rfl) (by simp only [St.put, List.set_cons_succ, List.set_cons_zero]; rfl) ?_
  refine TL.nil ?_
  show TC _ _ _ _ _ _
  refine TC.seq ?_
  refine TC.seq ?_
  -- region 1
  refine TC.region ?_
  refine TL.valE rfl (Val.move 1 rfl rfl) (by simp only [St.put, List.set_cons_succ, List.set_cons_zero]; rfl) ?_
  refine TL.valE rfl (by first | exact Val.len rfl rfl rfl rfl | exact Val.lenS rfl rfl rfl) (by simp only [St.put, List.set_cons_succ, List.set_cons_zero]; rfl) ?_
  refine TL.valE rfl (Val.move 1 rfl rfl) (by simp only [St.put, List.set_cons_succ, List.set_cons_zero]; rfl) ?_
  refine TL.valE rfl (by first | exact Val.len rfl rfl rfl rfl | exact Val.lenS rfl rfl rfl) (by simp only [St.put, List.set_cons_succ, List.set_cons_zero]; rfl) ?_
  refine TL.valE rfl (Val.neq rfl rfl rfl) (by simp only [St.put, List.set_cons_succ, List.set_cons_zero]; rfl) ?_
  refine TL.nil ?_
  show TC _ _ _ _ _ _
  refine TC.cond rfl (fun hb => ?_) (fun hb => ?_)
  · refine TC.seq ?_
    -- region 2
    refine TC.region ?_
    refine TL.valE rfl (Val.assign 1 rfl rfl) (by simp only [St.put, List.set_cons_succ, List.set_cons_zero]; rfl) ?_
    refine TL.nil ?_
    show TC _ _ _ _ _ _
    refine TC.ret ?_
    exact ⟨.inr rfl, [_], [_], _, rfl, by decide, rfl, by simp [refV, refC, valC], rfl, resV (by simp at *; intro e; subst e; simp at hb)⟩
  · refine TC.skip ?_
    show TC _ _ _ _ _ _
    refine TC.seq ?_
    refine TC.seq ?_
    have hl : xs.length = ys.length := by simp at hb; omega
    -- region 3
    refine TC.region ?_
    refine TL.valE rfl (Val.move 1 rfl rfl) (by simp only [St.put, List.set_cons_succ, List.set_cons_zero]; rfl) ?_
    refine TL.valE rfl (by first | exact Val.len rfl rfl rfl rfl | exact Val.lenS rfl rfl rfl) (by simp only [St.put, List.set_cons_succ, List.set_cons_zero]; rfl) ?_
    refine TL.valE rfl (Val.move 1 rfl rfl) (by simp only [St.put, List.set_cons_succ, List.set_cons_zero]; rfl) ?_
    refine TL.nil ?_
    show TC _ _ _ _ _ _
    refine TC.block ?_
    refine TC.loop (fun μ st => ∃ k : Nat, (k ≤ xs.length ∧ xs.take k = ys.take k) ∧ μ = xs.length - k ∧ Can st ⟨[L 1 (xs.map dInsS), L 1 (ys.map dInsS), .fn 49 [], .one .dead, .one .dead, .one .dead, .one .dead, .one .dead, .one .dead, .one .dead, .one .dead, .one .dead, .one .dead, .one .dead, .one .dead, L 1 (xs.map dInsS), I (xs.map dInsS).length, I k, .one .dead, .one .dead, .one .dead, .one .dead, .one .dead, .one .dead, .one .dead, .one .dead, .one .dead, .one .dead, .one .dead, .one .dead, .one .dead, .one .dead], []⟩) (xs.length) ?_ fun μ st hI => ?_
    · refine ⟨0, by simp, by simp, ?_⟩
      exact Can.to (by repeat first | exact LessT.nil | refine LessT.drop ?_ | refine LessT.keep ?_ | refine LessT.eq (by simp) ?_) (by repeat first | exact .nil | refine .cons rfl rfl ?_)
    · obtain ⟨k, hyp, rfl, hcan⟩ := hI
      refine TC.can hcan ?_
      clear hcan
      refine TC.seq ?_
      -- region 4
      refine TC.region ?_
      refine TL.valE rfl (Val.lss rfl rfl rfl) (by simp only [St.put, List.set_cons_succ, List.set_cons_zero]; rfl) ?_
      refine TL.nil ?_
      show TC _ _ _ _ _ _
      refine TC.seq ?_
      refine TC.cond rfl (fun hb => ?_) (fun hb => ?_)
      · refine TC.skip ?_
        show TC _ _ _ _ _ _
        refine TC.seq ?_
        refine TC.block ?_
        refine TC.seq ?_
        have hk : k < xs.length := by simpa using hb
        obtain ⟨x, hx⟩ := at_of (xs := xs) (k := k) hk
        obtain ⟨y, hy⟩ := at_of (xs := ys) (k := k) (by omega)
        -- region 5
        refine TC.region ?_
        refine TL.valE rfl (Val.move 1 rfl rfl) (by simp only [St.put, List.set_cons_succ, List.set_cons_zero]; rfl) ?_
        refine TL.valE rfl (by exact Val.indexC (d := dInsS x) rfl rfl rfl rfl rfl (by omega) (by simp [hx])) (by simp only [St.put, List.set_cons_succ, List.set_cons_zero]; rfl) ?_
        refine TL.valE rfl (by first | exact Val.load rfl rfl rfl rfl rfl | exact Val.loadC rfl rfl rfl | exact Val.loadAgg rfl rfl rfl rfl rfl rfl | exact Val.loadCAgg rfl rfl rfl rfl (Nat.le_of_ble_eq_true rfl)) (by simp only [St.put, List.set_cons_succ, List.set_cons_zero]; rfl) ?_
        refine TL.valE rfl (Val.assign 1 rfl rfl) (by simp only [St.put, List.set_cons_succ, List.set_cons_zero]; rfl) ?_
        refine TL.valE rfl (Val.assign 1 rfl rfl) (by simp only [St.put, List.set_cons_succ, List.set_cons_zero]; rfl) ?_
        refine TL.nil ?_
        show TC _ _ _ _ _ _
        refine TC.seq ?_
        -- region 6
        refine TC.region ?_
        refine TL.valE rfl (Val.move 1 rfl rfl) (by simp only [St.put, List.set_cons_succ, List.set_cons_zero]; rfl) ?_
        refine TL.valE rfl (Val.move 1 rfl rfl) (by simp only [St.put, List.set_cons_succ, List.set_cons_zero]; rfl) ?_
        refine TL.valE rfl (by exact Val.indexC (d := dInsS y) rfl rfl rfl rfl rfl (by omega) (by simp [hy])) (by simp only [St.put, List.set_cons_succ, List.set_cons_zero]; rfl) ?_
        refine TL.valE rfl (by first | exact Val.load rfl rfl rfl rfl rfl | exact Val.loadC rfl rfl rfl | exact Val.loadAgg rfl rfl rfl rfl rfl rfl | exact Val.loadCAgg rfl rfl rfl rfl (Nat.le_of_ble_eq_true rfl)) (by simp only [St.put, List.set_cons_succ, List.set_cons_zero]; rfl) ?_
        refine TL.valE rfl (Val.assign 1 rfl rfl) (by simp only [St.put, List.set_cons_succ, List.set_cons_zero]; rfl) ?_
        refine TL.nil ?_
        show TC _ _ _ _ _ _
        refine TC.seq ?_
        -- region 7
        refine TC.region ?_
        refine TL.valE rfl (Val.move 1 rfl rfl) (by simp only [St.put, List.set_cons_succ, List.set_cons_zero]; rfl) ?_
        refine TL.valE rfl (Val.move 1 rfl rfl) (by simp only [St.put, List.set_cons_succ, List.set_cons_zero]; rfl) ?_
        refine TL.valE rfl (Val.move 1 rfl rfl) (by simp only [St.put, List.set_cons_succ, List.set_cons_zero]; rfl) ?_
        refine TL.callF (yes_none rfl) rfl rfl rfl rfl rfl rfl (impl_SameProg_f x y) (by repeat first | exact .nil | refine Snaps.cons (.ro _) ?_ | refine Snaps.cons (.aggRo rfl) ?_ | refine Snaps.cons (.cptr _) ?_ | refine Snaps.cons (.fn _) ?_ | refine Snaps.cons (.ownRef rfl (by first | assumption | exact w_InsS _ | exact w_InsSS _ | exact w_InsSSS _ | exact w_ActS _)) ?_ | refine Snaps.cons (.aggR (by repeat first | exact .nil | refine SnapCs.cons (.ro _) ?_ | refine SnapCs.cons (.ref rfl (by first | assumption | exact w_InsS _ | exact w_InsSS _ | exact w_InsSSS _ | exact w_ActS _)) ?_)) ?_) rfl (by simp only [St.put, List.set_cons_succ, List.set_cons_zero]; rfl) ?_
        refine TL.valE rfl (Val.not rfl rfl) (by simp only [St.put, List.set_cons_succ, List.set_cons_zero]; rfl) ?_
        refine TL.nil ?_
        show TC _ _ _ _ _ _
        refine TC.cond rfl (fun hb => ?_) (fun hb => ?_)
        · refine TC.seq ?_
          -- region 8
          refine TC.region ?_
          refine TL.valE rfl (Val.assign 1 rfl rfl) (by simp only [St.put, List.set_cons_succ, List.set_cons_zero]; rfl) ?_
          refine TL.nil ?_
          show TC _ _ _ _ _ _
          refine TC.ret ?_
          exact ⟨.inr rfl, [_], [_], _, rfl, by decide, rfl, by simp [refV, refC, valC], rfl, resV (by simp at *; exact eq_off hx hy hb)⟩
        · refine TC.skip ?_
          show TC _ _ _ _ _ _
          -- region 9
          refine TC.region ?_
          refine TL.valE rfl (Val.add rfl rfl rfl (by first | omega | (simp only [List.length_map]; omega)) (by first | omega | (simp only [List.length_map]; omega))) (by simp only [St.put, List.set_cons_succ, List.set_cons_zero]; rfl) ?_
          refine TL.valE rfl (Val.move 1 rfl rfl) (by simp only [St.put, List.set_cons_succ, List.set_cons_zero]; rfl) ?_
          refine TL.nil ?_
          refine Seq.normal ⟨_, ?_, k + 1, ?_, rfl, ?_⟩
          · omega
          · exact ⟨by omega, eq_step hyp.2 hx (by simp at hb; rw [hb]; exact hy)⟩
          · exact Can.to (by repeat first | exact LessT.nil | refine LessT.drop ?_ | refine LessT.keep ?_ | refine LessT.eq (by simp) ?_) (by repeat first | exact .nil | refine .cons rfl rfl ?_)
      · refine TC.exit ?_
        -- exit 0
        show TC _ _ _ _ _ _
        refine TC.seq ?_
        -- region 10
        refine TC.region ?_
        refine TL.valE rfl (Val.assign 1 rfl rfl) (by simp only [St.put, List.set_cons_succ, List.set_cons_zero]; rfl) ?_
        refine TL.nil ?_
        show TC _ _ _ _ _ _
        refine TC.ret ?_
        exact ⟨.inr rfl, [_], [_], _, rfl, by decide, rfl, by simp [refV, refC, valC], rfl, resV (by simp at *; exact eq_all hl hyp.2 hb)⟩

-- loop.example/g00975/impl.SameScript$1: params ['[][]impl.Ins', '[][]impl.Ins'] results ['bool'] ('arr', [('app', 'Go.ResultVar.tmp', ['4'])])
theorem impl_SameScript_1_f (xs ys : List (List VIns)) : Fun Try.prog 47 [L 1 (xs.map dInsS), L 1 (ys.map dInsS)] (RV (.bool (decide (xs = ys)))) := by
  refine Fun.of Try.func47 rfl (by simp [Try.ntmps47]) fun w g0 => ?_
  simp only [Try.ntmps47, List.length_cons, List.length_nil, Nat.reduceAdd, Nat.reduceSub, List.replicate, List.cons_append, List.nil_append]
  refine TC.seq ?_
  -- region 0
  refine TC.region ?_
  refine TL.valE rfl (Val.assign 1 rfl rfl) (by simp only [St.put, List.set_cons_succ, List.set_cons_zero]; rfl) ?_
  refine TL.nil ?_
  show TC _ _ _ _ _ _
  refine TC.seq ?_
  -- region 1
  refine TC.region ?_
  refine TL.valE rfl (Val.move 1 rfl rfl) (by simp only [St.put, List.set_cons_succ, List.set_cons_zero]; rfl) ?_
  refine TL.valE rfl (Val.move 1 rfl rfl) (by simp only [St.put, List.set_cons_succ, List.set_cons_zero]; rfl) ?_
  refine TL.callF (yes_none rfl) rfl rfl rfl rfl rfl rfl (slices_EqualFunc_InsS_f xs ys) (by repeat first | exact .nil | refine Snaps.cons (.ro _) ?_ | refine Snaps.cons (.aggRo rfl) ?_ | refine Snaps.cons (.cptr _) ?_ | refine Snaps.cons (.fn _) ?_ | refine Snaps.cons (.ownRef rfl (by first | assumption | exact w_InsS _ | exact w_InsSS _ | exact w_InsSSS _ | exact w_ActS _)) ?_ | refine Snaps.cons (.aggR (by repeat first | exact .nil | refine SnapCs.cons (.ro _) ?_ | refine SnapCs.cons (.ref rfl (by first | assumption | exact w_InsS _ | exact w_InsSS _ | exact w_InsSSS _ | exact w_ActS _)) ?_)) ?_) rfl (by simp only [St.put, List.set_cons_succ, List.set_cons_zero]; rfl) ?_
  refine TL.valE rfl (Val.assign 1 rfl rfl) (by simp only [St.put, List.set_cons_succ, List.set_cons_zero]; rfl) ?_
  refine TL.nil ?_
  show TC _ _ _ _ _ _
  refine TC.ret ?_
  exact ⟨.inr rfl, [_], [_], _, rfl, by decide, rfl, by simp [refV, refC, valC], rfl, rfl⟩

-- slices.EqualFunc[[][][]loop.example/g00975/impl.Ins,[][][]loop.example/g00975/impl.Ins,[][]loop.example/g00975/impl.Ins,[][]loop.example/g00975/impl.Ins]: params ['[][][]impl.Ins', '[][][]impl.Ins', 'func([][]impl.Ins, [][]impl.Ins) bool'] results ['bool'] ('arr', [('app', 'Go.ResultVar.tmp', ['6'])])
theorem slices_EqualFunc_InsSS_f (xs ys : List (List (List VIns))) : Fun Try.prog 50 [L 1 (xs.map dInsSS), L 1 (ys.map dInsSS), .fn 47 []] (RV (.bool (decide (xs = ys)))) := by
  refine Fun.of Try.func50 rfl (by simp [Try.ntmps50]) fun w g0 => ?_
  simp only [Try.ntmps50, List.length_cons, List.length_nil, Nat.reduceAdd, Nat.reduceSub, List.replicate, List.cons_append, List.nil_append]
  refine TC.most (i := 0) rfl rfl fun hm0 => ?_
  simp only [most, List.length_map] at hm0
  refine TC.seq ?_
  -- region 0
  refine TC.region ?_
  refine TL.valE rfl (Val.assign 1 rfl rfl) (by simp only [St.put, List.set_cons_succ, List.set_cons_zero]; rfl) ?_
  refine TL.nil ?_
  show TC _ _ _ _ _ _
  refine TC.seq ?_
  refine TC.seq ?_
  -- region 1
  refine TC.region ?_
  refine TL.valE rfl (Val.move 1 rfl rfl) (by simp only [St.put, List.set_cons_succ, List.set_cons_zero]; rfl) ?_
  refine TL.valE rfl (by first | exact Val.len rfl rfl rfl rfl | exact Val.lenS rfl rfl rfl) (by simp only [St.put, List.set_cons_succ, List.set_cons_zero]; rfl) ?_
  refine TL.valE rfl (Val.move 1 rfl rfl) (by simp only [St.put, List.set_cons_succ, List.set_cons_zero]; rfl) ?_
  refine TL.valE rfl (by first | exact Val.len rfl rfl rfl rfl | exact Val.lenS rfl rfl rfl) (by simp only [St.put, List.set_cons_succ, List.set_cons_zero]; rfl) ?_
  refine TL.valE rfl (Val.neq rfl rfl rfl) (by simp only [St.put, List.set_cons_succ, List.set_cons_zero]; rfl) ?_
  refine TL.nil ?_
  show TC _ _ _ _ _ _
  refine TC.cond rfl (fun hb => ?_) (fun hb => ?_)
  · refine TC.seq ?_
    -- region 2
    refine TC.region ?_
    refine TL.valE rfl (Val.assign 1 rfl rfl) (by simp only [St.put, List.set_cons_succ, List.set_cons_zero]; rfl) ?_
    refine TL.nil ?_
    show TC _ _ _ _ _ _
    refine TC.ret ?_
    exact ⟨.inr rfl, [_], [_], _, rfl, by decide, rfl, by simp [refV, refC, valC], rfl, resV (by simp at *; intro e; subst e; simp at hb)⟩
  · refine TC.skip ?_
    show TC _ _ _ _ _ _
    refine TC.seq ?_
    refine TC.seq ?_
    have hl : xs.length = ys.length := by simp at hb; omega
    -- region 3
    refine TC.region ?_
    refine TL.valE rfl (Val.move 1 rfl rfl) (by simp only [St.put, List.set_cons_succ, List.set_cons_zero]; rfl) ?_
    refine TL.valE rfl (by first | exact Val.len rfl rfl rfl rfl | exact Val.lenS rfl rfl rfl) (by simp only [St.put, List.set_cons_succ, List.set_cons_zero]; rfl) ?_
    refine TL.valE rfl (Val.move 1 rfl rfl) (by simp only [St.put, List.set_cons_succ, List.set_cons_zero]; rfl) ?_
    refine TL.nil ?_
    show TC _ _ _ _ _ _
    refine TC.block ?_
    refine TC.loop (fun μ st => ∃ k : Nat, (k ≤ xs.length ∧ xs.take k = ys.take k) ∧ μ = xs.length - k ∧ Can st ⟨[L 1 (xs.map dInsSS), L 1 (ys.map dInsSS), .fn 47 [], .one .dead, .one .dead, .one .dead, .one .dead, .one .dead, .one .dead, .one .dead, .one .dead, .one .dead, .one .dead, .one .dead, .one .dead, L 1 (xs.map dInsSS), I (xs.map dInsSS).length, I k, .one .dead, .one .dead, .one .dead, .one .dead, .one .dead, .one .dead, .one .dead, .one .dead, .one .dead, .one .dead, .one .dead, .one .dead, .one .dead, .one .dead], []⟩) (xs.length) ?_ fun μ st hI => ?_
    · refine ⟨0, by simp, by simp, ?_⟩
      exact Can.to (by repeat first | exact LessT.nil | refine LessT.drop ?_ | refine LessT.keep ?_ | refine LessT.eq (by simp) ?_) (by repeat first | exact .nil | refine .cons rfl rfl ?_)
    · obtain ⟨k, hyp, rfl, hcan⟩ := hI
      refine TC.can hcan ?_
      clear hcan
      refine TC.seq ?_
      -- region 4
      refine TC.region ?_
      refine TL.valE rfl (Val.lss rfl rfl rfl) (by simp only [St.put, List.set_cons_succ, List.set_cons_zero]; rfl) ?_
      refine TL.nil ?_
      show TC _ _ _ _ _ _
      refine TC.seq ?_
      refine TC.cond rfl (fun hb => ?_) (fun hb => ?_)
      · refine TC.skip ?_
        show TC _ _ _ _ _ _
        refine TC.seq ?_
        refine TC.block ?_
        refine TC.seq ?_
        have hk : k < xs.length := by simpa using hb
        obtain ⟨x, hx⟩ := at_of (xs := xs) (k := k) hk
        obtain ⟨y, hy⟩ := at_of (xs := ys) (k := k) (by omega)
        -- region 5
        refine TC.region ?_
        refine TL.valE rfl (Val.move 1 rfl rfl) (by simp only [St.put, List.set_cons_succ, List.set_cons_zero]; rfl) ?_
        refine TL.valE rfl (by exact Val.indexC (d := dInsSS x) rfl rfl rfl rfl rfl (by omega) (by simp [hx])) (by simp only [St.put, List.set_cons_succ, List.set_cons_zero]; rfl) ?_
        refine TL.valE rfl (by first | exact Val.load rfl rfl rfl rfl rfl | exact Val.loadC rfl rfl rfl | exact Val.loadAgg rfl rfl rfl rfl rfl rfl | exact Val.loadCAgg rfl rfl rfl rfl (Nat.le_of_ble_eq_true rfl)) (by simp only [St.put, List.set_cons_succ, List.set_cons_zero]; rfl) ?_
        refine TL.valE rfl (Val.assign 1 rfl rfl) (by simp only [St.put, List.set_cons_succ, List.set_cons_zero]; rfl) ?_
        refine TL.valE rfl (Val.assign 1 rfl rfl) (by simp only [St.put, List.set_cons_succ, List.set_cons_zero]; rfl) ?_
        refine TL.nil ?_
        show TC _ _ _ _ _ _
        refine TC.seq ?_
        -- region 6
        refine TC.region ?_
        refine TL.valE rfl (Val.move 1 rfl rfl) (by simp only [St.put, List.set_cons_succ, List.set_cons_zero]; rfl) ?_
        refine TL.valE rfl (Val.move 1 rfl rfl) (by simp only [St.put, List.set_cons_succ, List.set_cons_zero]; rfl) ?_
        refine TL.valE rfl (by exact Val.indexC (d := dInsSS y) rfl rfl rfl rfl rfl (by omega) (by simp [hy])) (by simp only [St.put, List.set_cons_succ, List.set_cons_zero]; rfl) ?_
        refine TL.valE rfl (by first | exact Val.load rfl rfl rfl rfl rfl | exact Val.loadC rfl rfl rfl | exact Val.loadAgg rfl rfl rfl rfl rfl rfl | exact Val.loadCAgg rfl rfl rfl rfl (Nat.le_of_ble_eq_true rfl)) (by simp only [St.put, List.set_cons_succ, List.set_cons_zero]; rfl) ?_
        refine TL.valE rfl (Val.assign 1 rfl rfl) (by simp only [St.put, List.set_cons_succ, List.set_cons_zero]; rfl) ?_
        refine TL.nil ?_
        show TC _ _ _ _ _ _
        refine TC.seq ?_
        -- region 7
        refine TC.region ?_
        refine TL.valE rfl (Val.move 1 rfl rfl) (by simp only [St.put, List.set_cons_succ, List.set_cons_zero]; rfl) ?_
        refine TL.valE rfl (Val.move 1 rfl rfl) (by simp only [St.put, List.set_cons_succ, List.set_cons_zero]; rfl) ?_
        refine TL.valE rfl (Val.move 1 rfl rfl) (by simp only [St.put, List.set_cons_succ, List.set_cons_zero]; rfl) ?_
        refine TL.callF (yes_none rfl) rfl rfl rfl rfl rfl rfl (impl_SameScript_1_f x y) (by repeat first | exact .nil | refine Snaps.cons (.ro _) ?_ | refine Snaps.cons (.aggRo rfl) ?_ | refine Snaps.cons (.cptr _) ?_ | refine Snaps.cons (.fn _) ?_ | refine Snaps.cons (.ownRef rfl (by first | assumption | exact w_InsS _ | exact w_InsSS _ | exact w_InsSSS _ | exact w_ActS _)) ?_ | refine Snaps.cons (.aggR (by repeat first | exact .nil | refine SnapCs.cons (.ro _) ?_ | refine SnapCs.cons (.ref rfl (by first | assumption | exact w_InsS _ | exact w_InsSS _ | exact w_InsSSS _ | exact w_ActS _)) ?_)) ?_) rfl (by simp only [St.put, List.set_cons_succ, List.set_cons_zero]; rfl) ?_
        refine TL.valE rfl (Val.not rfl rfl) (by simp only [St.put, List.set_cons_succ, List.set_cons_zero]; rfl) ?_
        refine TL.nil ?_
        show TC _ _ _ _ _ _
        refine TC.cond rfl (fun hb => ?_) (fun hb => ?_)
        · refine TC.seq ?_
          -- region 8
          refine TC.region ?_
          refine TL.valE rfl (Val.assign 1 rfl rfl) (by simp only [St.put, List.set_cons_succ, List.set_cons_zero]; rfl) ?_
          refine TL.nil ?_
          show TC _ _ _ _ _ _
          refine TC.ret ?_
          exact ⟨.inr rfl, [_], [_], _, rfl, by decide, rfl, by simp [refV, refC, valC], rfl, resV (by simp at *; exact eq_off hx hy hb)⟩
        · refine TC.skip ?_
          show TC _ _ _ _ _ _
          -- region 9
          refine TC.region ?_
          refine TL.valE rfl (Val.add rfl rfl rfl (by first | omega | (simp only [List.length_map]; omega)) (by first | omega | (simp only [List.length_map]; omega))) (by simp only [St.put, List.set_cons_succ, List.set_cons_zero]; rfl) ?_
          refine TL.valE rfl (Val.move 1 rfl rfl) (by simp only [St.put, List.set_cons_succ, List.set_cons_zero]; rfl) ?_
          refine TL.nil ?_
          refine Seq.normal ⟨_, ?_, k + 1, ?_, rfl, ?_⟩
          · omega
          · exact ⟨by omega, eq_step hyp.2 hx (by simp at hb; rw [hb]; exact hy)⟩
          · exact Can.to (by repeat first | exact LessT.nil | refine LessT.drop ?_ | refine LessT.keep ?_ | refine LessT.eq (by simp) ?_) (by repeat first | exact .nil | refine .cons rfl rfl ?_)
      · refine TC.exit ?_
        -- exit 0
        show TC _ _ _ _ _ _
        refine TC.seq ?_
        -- region 10
        refine TC.region ?_
        refine TL.valE rfl (Val.assign 1 rfl rfl) (by simp only [St.put, List.set_cons_succ, List.set_cons_zero]; rfl) ?_
        refine TL.nil ?_
        show TC _ _ _ _ _ _
        refine TC.ret ?_
        exact ⟨.inr rfl, [_], [_], _, rfl, by decide, rfl, by simp [refV, refC, valC], rfl, resV (by simp at *; exact eq_all hl hyp.2 hb)⟩

-- loop.example/g00975/impl.SameScript: params ['impl.Script = loop.example/g00975/impl.Script', 'impl.Script = loop.example/g00975/impl.Script'] results ['bool'] ('arr', [('app', 'Go.ResultVar.tmp', ['4'])])
theorem impl_SameScript_f (x y : VScript) : Fun Try.prog 33 [A (rScript x), A (rScript y)] (RV (.bool (decide (x = y)))) := by
  refine Fun.of Try.func33 rfl (by simp [Try.ntmps33]) fun w g0 => ?_
  simp only [Try.ntmps33, List.length_cons, List.length_nil, Nat.reduceAdd, Nat.reduceSub, List.replicate, List.cons_append, List.nil_append]
  refine TC.seq ?_
  -- region 0
  refine TC.region ?_
  refine TL.opK rfl fun K hK => ?_
  first | refine OpT.box rfl rfl (z := 1) rfl (by simp) ?_ | refine OpT.boxAgg rfl rfl rfl ?_ -- 2
  simp only [St.fresh, St.kill, St.setRoot, St.put, St.renew, TS.kill, TV.kill, C.kill, Rt.kill, boxC, List.map_cons, List.map_nil, List.filter_cons, List.filter_nil, List.set_cons_succ, List.set_cons_zero, List.contains_cons, List.contains_nil, Nat.reduceBEq, Nat.reduceBNe, St.wrote, hitR, hitP, shapeOf, List.isPrefixOf, List.append_eq, Bool.and_true, Bool.true_and, Bool.and_false, Bool.false_and, List.nil_append, List.cons_append, beq_self_eq_true, bne_self_eq_false, Bool.or_false, Bool.or_true, Bool.not_true, Bool.not_false, Bool.false_eq_true, if_true, if_false, reduceIte]
  refine hK _ ?_
  clear hK K
  refine TL.opK rfl fun K hK => ?_
  first | refine OpT.box rfl rfl (z := 1) rfl (by simp) ?_ | refine OpT.boxAgg rfl rfl rfl ?_ -- 3
  simp only [St.fresh, St.kill, St.setRoot, St.put, St.renew, TS.kill, TV.kill, C.kill, Rt.kill, boxC, List.map_cons, List.map_nil, List.filter_cons, List.filter_nil, List.set_cons_succ, List.set_cons_zero, List.contains_cons, List.contains_nil, Nat.reduceBEq, Nat.reduceBNe, St.wrote, hitR, hitP, shapeOf, List.isPrefixOf, List.append_eq, Bool.and_true, Bool.true_and, Bool.and_false, Bool.false_and, List.nil_append, List.cons_append, beq_self_eq_true, bne_self_eq_false, Bool.or_false, Bool.or_true, Bool.not_true, Bool.not_false, Bool.false_eq_true, if_true, if_false, reduceIte]
  refine hK _ ?_
  clear hK K
  refine TL.valE rfl (Val.assign 1 rfl rfl) (by simp only [St.put, List.set_cons_succ, List.set_cons_zero]; rfl) ?_
  refine TL.nil ?_
  show TC _ _ _ _ _ _
  refine TC.seq ?_
  -- region 1
  refine TC.region ?_
  refine TL.valE rfl (Val.assign 1 rfl rfl) (by simp only [St.put, List.set_cons_succ, List.set_cons_zero]; rfl) ?_
  refine TL.nil ?_
  show TC _ _ _ _ _ _
  refine TC.seq ?_
  -- region 2
  refine TC.region ?_
  refine TL.valE rfl (by first | exact Val.field rfl rfl rfl | exact Val.fieldC rfl rfl rfl) (by simp only [St.put, List.set_cons_succ, List.set_cons_zero]; rfl) ?_
  refine TL.valE rfl (by first | exact Val.load rfl rfl rfl rfl rfl | exact Val.loadC rfl rfl rfl | exact Val.loadAgg rfl rfl rfl rfl rfl rfl | exact Val.loadCAgg rfl rfl rfl rfl (Nat.le_of_ble_eq_true rfl)) (by simp only [St.put, List.set_cons_succ, List.set_cons_zero]; rfl) ?_
  refine TL.valE rfl (by first | exact Val.field rfl rfl rfl | exact Val.fieldC rfl rfl rfl) (by simp only [St.put, List.set_cons_succ, List.set_cons_zero]; rfl) ?_
  refine TL.valE rfl (by first | exact Val.load rfl rfl rfl rfl rfl | exact Val.loadC rfl rfl rfl | exact Val.loadAgg rfl rfl rfl rfl rfl rfl | exact Val.loadCAgg rfl rfl rfl rfl (Nat.le_of_ble_eq_true rfl)) (by simp only [St.put, List.set_cons_succ, List.set_cons_zero]; rfl) ?_
  refine TL.valE rfl (Val.move 1 rfl rfl) (by simp only [St.put, List.set_cons_succ, List.set_cons_zero]; rfl) ?_
  refine TL.callF (yes_none rfl) rfl rfl rfl rfl rfl rfl (slices_EqualFunc_InsSS_f x.All y.All) (by repeat first | exact .nil | refine Snaps.cons (.ro _) ?_ | refine Snaps.cons (.aggRo rfl) ?_ | refine Snaps.cons (.cptr _) ?_ | refine Snaps.cons (.fn _) ?_ | refine Snaps.cons (.ownRef rfl (by first | assumption | exact w_InsS _ | exact w_InsSS _ | exact w_InsSSS _ | exact w_ActS _)) ?_ | refine Snaps.cons (.aggR (by repeat first | exact .nil | refine SnapCs.cons (.ro _) ?_ | refine SnapCs.cons (.ref rfl (by first | assumption | exact w_InsS _ | exact w_InsSS _ | exact w_InsSSS _ | exact w_ActS _)) ?_)) ?_) rfl (by simp only [St.put, List.set_cons_succ, List.set_cons_zero]; rfl) ?_
  refine TL.valE rfl (Val.move 1 rfl rfl) (by simp only [St.put, List.set_cons_succ, List.set_cons_zero]; rfl) ?_
  refine TL.splitG 6 rfl (fun hg6 => ?_) (fun hg6 => ?_)
  · refine TL.guardE rfl rfl hg6 (by first | exact Val.field rfl rfl rfl | exact Val.fieldC rfl rfl rfl) (by simp only [St.put, List.set_cons_succ, List.set_cons_zero]; rfl) ?_
    refine TL.guardE rfl rfl hg6 (by first | exact Val.load rfl rfl rfl rfl rfl | exact Val.loadC rfl rfl rfl | exact Val.loadAgg rfl rfl rfl rfl rfl rfl | exact Val.loadCAgg rfl rfl rfl rfl (Nat.le_of_ble_eq_true rfl)) (by simp only [St.put, List.set_cons_succ, List.set_cons_zero]; rfl) ?_
    refine TL.guardE rfl rfl hg6 (by first | exact Val.field rfl rfl rfl | exact Val.fieldC rfl rfl rfl) (by simp only [St.put, List.set_cons_succ, List.set_cons_zero]; rfl) ?_
    refine TL.guardE rfl rfl hg6 (by first | exact Val.load rfl rfl rfl rfl rfl | exact Val.loadC rfl rfl rfl | exact Val.loadAgg rfl rfl rfl rfl rfl rfl | exact Val.loadCAgg rfl rfl rfl rfl (Nat.le_of_ble_eq_true rfl)) (by simp only [St.put, List.set_cons_succ, List.set_cons_zero]; rfl) ?_
    refine TL.callF (yes_some rfl rfl hg6) rfl rfl rfl rfl rfl rfl (slices_Equal_Act_f x.Acts y.Acts) (by repeat first | exact .nil | refine Snaps.cons (.ro _) ?_ | refine Snaps.cons (.aggRo rfl) ?_ | refine Snaps.cons (.cptr _) ?_ | refine Snaps.cons (.fn _) ?_ | refine Snaps.cons (.ownRef rfl (by first | assumption | exact w_InsS _ | exact w_InsSS _ | exact w_InsSSS _ | exact w_ActS _)) ?_ | refine Snaps.cons (.aggR (by repeat first | exact .nil | refine SnapCs.cons (.ro _) ?_ | refine SnapCs.cons (.ref rfl (by first | assumption | exact w_InsS _ | exact w_InsSS _ | exact w_InsSSS _ | exact w_ActS _)) ?_)) ?_) rfl (by simp only [St.put, List.set_cons_succ, List.set_cons_zero]; rfl) ?_
    refine TL.valE rfl (Val.pickT rfl rfl hg6 rfl) (by simp only [St.put, List.set_cons_succ, List.set_cons_zero]; rfl) ?_
    refine TL.valE rfl (Val.assign 1 rfl rfl) (by simp only [St.put, List.set_cons_succ, List.set_cons_zero]; rfl) ?_
    refine TL.nil ?_
    show TC _ _ _ _ _ _
    refine TC.ret ?_
    exact ⟨.inr rfl, [_], [_], _, rfl, by decide, rfl, by simp [refV, refC, valC], rfl, resV (by cases x; cases y; simp_all)⟩
  · refine TL.guardN rfl rfl hg6 (by simp only [St.put, List.set_cons_succ, List.set_cons_zero]; rfl) ?_
    refine TL.guardN rfl rfl hg6 (by simp only [St.put, List.set_cons_succ, List.set_cons_zero]; rfl) ?_
    refine TL.guardN rfl rfl hg6 (by simp only [St.put, List.set_cons_succ, List.set_cons_zero]; rfl) ?_
    refine TL.guardN rfl rfl hg6 (by simp only [St.put, List.set_cons_succ, List.set_cons_zero]; rfl) ?_
    refine TL.guardN rfl rfl hg6 (by simp only [St.put, List.set_cons_succ, List.set_cons_zero]; rfl) ?_
    refine TL.valE rfl (Val.pickF rfl rfl hg6 rfl) (by simp only [St.put, List.set_cons_succ, List.set_cons_zero]; rfl) ?_
    refine TL.valE rfl (Val.assign 1 rfl rfl) (by simp only [St.put, List.set_cons_succ, List.set_cons_zero]; rfl) ?_
    refine TL.nil ?_
    show TC _ _ _ _ _ _
    refine TC.ret ?_
    exact ⟨.inr rfl, [_], [_], _, rfl, by decide, rfl, by simp [refV, refC, valC], rfl, resV (by cases x; cases y; simp_all)⟩
end Go.Proofs.Ytljoagkclakjmaa.T

