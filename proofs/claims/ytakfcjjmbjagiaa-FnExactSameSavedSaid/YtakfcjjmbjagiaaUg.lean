/- Saved systems compared. PRINTED by gen.py out of spec_same.py. -/
import Derived.Test.YtakfcjjmbjagiaaUe
namespace Go.Proofs.Ytakfcjjmbjagiaa.T
open Go
set_option linter.unusedVariables false
set_option linter.unusedSimpArgs false
set_option maxRecDepth 100000
set_option maxHeartbeats 1000000

-- loop.example/g00975/spec.l04Ints: params ['[]int', '[]int'] results ['bool'] ('arr', [('app', 'Go.ResultVar.tmp', ['4'])])
theorem spec_l04Ints_f (xs ys : List Int) : Fun Try.prog 14 [L 1 (xs.map dInt), L 1 (ys.map dInt)] (RV (.bool (decide (xs = ys)))) := by
  refine Fun.of Try.func14 rfl (by simp [Try.ntmps14]) fun w g0 => ?_
  simp only [Try.ntmps14, List.length_cons, List.length_nil, Nat.reduceAdd, Nat.reduceSub, List.replicate, List.cons_append, List.nil_append]
  refine TC.most (i := 0) rfl rfl fun hm0 => ?_
  simp only [most, List.length_map] at hm0
  refine TC.seq ?_
  -- region 0
  refine TC.region ?_
  refine TL.valE rfl (Val.assign 1 rfl rfl) (by simp only [St.put, List.set_cons_succ, List.set_cons_zero]; rfl) ?_
  refine TL.nil ?_
  show TC _ _ _ _ _ _
  refine TC.seq ?_
  refine TC.seq ?_
  -- region 1
  refine TC.region ?_
  refine TL.valE rfl (Val.move 1 rfl rfl) (by simp only [St.put, List.set_cons_succ, List.set_cons_zero]; rfl) ?_
  refine TL.valE rfl (by first | exact Val.len rfl rfl rfl rfl | exact Val.lenS rfl rfl rfl) (by simp only [St.put, List.set_cons_succ, List.set_cons_zero]; rfl) ?_
  refine TL.valE rfl (Val.move 1 rfl rfl) (by simp only [St.put, List.set_cons_succ, List.set_cons_zero]; rfl) ?_
  refine TL.valE rfl (by first | exact Val.len rfl rfl rfl rfl | exact Val.lenS rfl rfl rfl) (by simp only [St.put, List.set_cons_succ, List.set_cons_zero]; rfl) ?_
  refine TL.valE rfl (Val.neq rfl rfl rfl) (by simp only [St.put, List.set_cons_succ, List.set_cons_zero]; rfl) ?_
  refine TL.nil ?_
  show TC _ _ _ _ _ _
  refine TC.cond rfl (fun hb => ?_) (fun hb => ?_)
  · refine TC.seq ?_
    -- region 2
    refine TC.region ?_
    refine TL.valE rfl (Val.assign 1 rfl rfl) (by simp only [St.put, List.set_cons_succ, List.set_cons_zero]; rfl) ?_
    refine TL.nil ?_
    show TC _ _ _ _ _ _
    refine TC.ret ?_
    exact ⟨.inr rfl, [_], [_], _, rfl, by decide, rfl, by simp [refV, refC, valC], rfl, resV (by simp at *; intro e; subst e; simp at hb)⟩
  · refine TC.skip ?_
    show TC _ _ _ _ _ _
    refine TC.seq ?_
    refine TC.seq ?_
    have hl : xs.length = ys.length := by simp at hb; omega
    -- region 3
    refine TC.region ?_
    refine TL.valE rfl (Val.assign 1 rfl rfl) (by simp only [St.put, List.set_cons_succ, List.set_cons_zero]; rfl) ?_
    refine TL.nil ?_
    show TC _ _ _ _ _ _
    refine TC.block ?_
    refine TC.loop (fun μ st => ∃ k : Nat, (k ≤ xs.length ∧ xs.take k = ys.take k) ∧ μ = xs.length - k ∧ Can st ⟨[L 1 (xs.map dInt), L 1 (ys.map dInt), .one .dead, .one .dead, .one .dead, I k, .one .dead, .one .dead, .one .dead, .one .dead, .one .dead, .one .dead, .one .dead, .one .dead, .one .dead, .one .dead, .one .dead, .one .dead, .one .dead, .one .dead, .one .dead, .one .dead, .one .dead, .one .dead, .one .dead, .one .dead], []⟩) (xs.length) ?_ fun μ st hI => ?_
    · refine ⟨0, by simp, by simp, ?_⟩
      exact Can.to (by repeat first | exact LessT.nil | refine LessT.drop ?_ | refine LessT.keep ?_ | refine LessT.eq (by simp) ?_) (by repeat first | exact .nil | refine .cons rfl rfl ?_)
    · obtain ⟨k, hyp, rfl, hcan⟩ := hI
      refine TC.can hcan ?_
      clear hcan
      refine TC.seq ?_
      refine TC.seq ?_
      -- region 4
      refine TC.region ?_
      refine TL.valE rfl (Val.move 1 rfl rfl) (by simp only [St.put, List.set_cons_succ, List.set_cons_zero]; rfl) ?_
      refine TL.valE rfl (Val.move 1 rfl rfl) (by simp only [St.put, List.set_cons_succ, List.set_cons_zero]; rfl) ?_
      refine TL.valE rfl (by first | exact Val.len rfl rfl rfl rfl | exact Val.lenS rfl rfl rfl) (by simp only [St.put, List.set_cons_succ, List.set_cons_zero]; rfl) ?_
      refine TL.valE rfl (Val.lss rfl rfl rfl) (by simp only [St.put, List.set_cons_succ, List.set_cons_zero]; rfl) ?_
      refine TL.nil ?_
      show TC _ _ _ _ _ _
      refine TC.cond rfl (fun hb => ?_) (fun hb => ?_)
      · refine TC.skip ?_
        show TC _ _ _ _ _ _
        refine TC.seq ?_
        refine TC.block ?_
        refine TC.seq ?_
        have hk : k < xs.length := by simpa using hb
        obtain ⟨x, hx⟩ := at_of (xs := xs) (k := k) hk
        obtain ⟨y, hy⟩ := at_of (xs := ys) (k := k) (by omega)
        -- region 6
        refine TC.regionQ rfl (by decide +kernel) ?_
        refine TQ.valE rfl (Val.move 1 rfl rfl) (by simp only [St.put, List.set_cons_succ, List.set_cons_zero]; rfl) ?_
        refine TQ.valE rfl (Val.move 1 rfl rfl) (by simp only [St.put, List.set_cons_succ, List.set_cons_zero]; rfl) ?_
        refine TQ.valE rfl (by exact Val.indexC (d := dInt x) rfl rfl rfl rfl rfl (by omega) (by simp [hx])) (by simp only [St.put, List.set_cons_succ, List.set_cons_zero]; rfl) ?_
        refine TQ.valE rfl (by first | exact Val.load rfl rfl rfl rfl rfl | exact Val.loadC rfl rfl rfl | exact Val.loadAgg rfl rfl rfl rfl rfl rfl | exact Val.loadCAgg rfl rfl rfl rfl (Nat.le_of_ble_eq_true rfl)) (by simp only [St.put, List.set_cons_succ, List.set_cons_zero, valC]; rfl) ?_
        refine TQ.valE rfl (Val.move 1 rfl rfl) (by simp only [St.put, List.set_cons_succ, List.set_cons_zero]; rfl) ?_
        refine TQ.valE rfl (Val.move 1 rfl rfl) (by simp only [St.put, List.set_cons_succ, List.set_cons_zero]; rfl) ?_
        refine TQ.valE rfl (by exact Val.indexC (d := dInt y) rfl rfl rfl rfl rfl (by omega) (by simp [hy])) (by simp only [St.put, List.set_cons_succ, List.set_cons_zero]; rfl) ?_
        refine TQ.valE rfl (by first | exact Val.load rfl rfl rfl rfl rfl | exact Val.loadC rfl rfl rfl | exact Val.loadAgg rfl rfl rfl rfl rfl rfl | exact Val.loadCAgg rfl rfl rfl rfl (Nat.le_of_ble_eq_true rfl)) (by simp only [St.put, List.set_cons_succ, List.set_cons_zero, valC]; rfl) ?_
        refine TQ.valE rfl (Val.neq rfl rfl rfl) (by simp only [St.put, List.set_cons_succ, List.set_cons_zero]; rfl) ?_
        refine TQ.nil ?_
        show TC _ _ _ _ _ _
        refine TC.cond rfl (fun hb => ?_) (fun hb => ?_)
        · refine TC.seq ?_
          -- region 7
          refine TC.region ?_
          refine TL.valE rfl (Val.assign 1 rfl rfl) (by simp only [St.put, List.set_cons_succ, List.set_cons_zero]; rfl) ?_
          refine TL.nil ?_
          show TC _ _ _ _ _ _
          refine TC.ret ?_
          exact ⟨.inr rfl, [_], [_], _, rfl, by decide, rfl, by simp [refV, refC, valC], rfl, resV (by simp at *; exact eq_off hx hy hb)⟩
        · refine TC.skip ?_
          show TC _ _ _ _ _ _
          -- region 5
          refine TC.region ?_
          refine TL.valE rfl (Val.move 1 rfl rfl) (by simp only [St.put, List.set_cons_succ, List.set_cons_zero]; rfl) ?_
          refine TL.valE rfl (Val.add rfl rfl rfl (by first | omega | (simp only [List.length_map]; omega)) (by first | omega | (simp only [List.length_map]; omega))) (by simp only [St.put, List.set_cons_succ, List.set_cons_zero]; rfl) ?_
          refine TL.valE rfl (Val.assign 1 rfl rfl) (by simp only [St.put, List.set_cons_succ, List.set_cons_zero]; rfl) ?_
          refine TL.nil ?_
          refine Seq.normal ⟨_, ?_, k + 1, ?_, rfl, ?_⟩
          · omega
          · exact ⟨by omega, eq_step hyp.2 hx (by simp at hb; rw [hb]; exact hy)⟩
          · exact Can.to (by repeat first | exact LessT.nil | refine LessT.drop ?_ | refine LessT.keep ?_ | refine LessT.eq (by simp) ?_) (by repeat first | exact .nil | refine .cons rfl rfl ?_)
      · refine TC.exit ?_
        -- exit 0
        show TC _ _ _ _ _ _
        refine TC.seq ?_
        -- region 8
        refine TC.region ?_
        refine TL.valE rfl (Val.assign 1 rfl rfl) (by simp only [St.put, List.set_cons_succ, List.set_cons_zero]; rfl) ?_
        refine TL.nil ?_
        show TC _ _ _ _ _ _
        refine TC.ret ?_
        exact ⟨.inr rfl, [_], [_], _, rfl, by decide, rfl, by simp [refV, refC, valC], rfl, resV (by simp at *; exact eq_all hl hyp.2 hb)⟩

-- loop.example/g00975/spec.SameProg: params ['[]impl.Ins', '[]impl.Ins'] results ['bool'] ('arr', [('app', 'Go.ResultVar.tmp', ['4'])])
theorem spec_SameProg_f (xs ys : List VIns) : Fun Try.prog 63 [L 2 (xs.map dIns), L 2 (ys.map dIns)] (RV (.bool (decide (xs = ys)))) := by
  refine Fun.of Try.func63 rfl (by simp [Try.ntmps63]) fun w g0 => ?_
  simp only [Try.ntmps63, List.length_cons, List.length_nil, Nat.reduceAdd, Nat.reduceSub, List.replicate, List.cons_append, List.nil_append]
  refine TC.most (i := 0) rfl rfl fun hm0 => ?_
  simp only [most, List.length_map] at hm0
  refine TC.seq ?_
  -- region 0
  refine TC.region ?_
  refine TL.valE rfl (Val.assign 1 rfl rfl) (by simp only [St.put, List.set_cons_succ, List.set_cons_zero]; rfl) ?_
  refine TL.nil ?_
  show TC _ _ _ _ _ _
  refine TC.seq ?_
  refine TC.seq ?_
  -- region 1
  refine TC.region ?_
  refine TL.valE rfl (Val.move 1 rfl rfl) (by simp only [St.put, List.set_cons_succ, List.set_cons_zero]; rfl) ?_
  refine TL.valE rfl (by first | exact Val.len rfl rfl rfl rfl | exact Val.lenS rfl rfl rfl) (by simp only [St.put, List.set_cons_succ, List.set_cons_zero]; rfl) ?_
  refine TL.valE rfl (Val.move 1 rfl rfl) (by simp only [St.put, List.set_cons_succ, List.set_cons_zero]; rfl) ?_
  refine TL.valE rfl (by first | exact Val.len rfl rfl rfl rfl | exact Val.lenS rfl rfl rfl) (by simp only [St.put, List.set_cons_succ, List.set_cons_zero]; rfl) ?_
  refine TL.valE rfl (Val.neq rfl rfl rfl) (by simp only [St.put, List.set_cons_succ, List.set_cons_zero]; rfl) ?_
  refine TL.nil ?_
  show TC _ _ _ _ _ _
  refine TC.cond rfl (fun hb => ?_) (fun hb => ?_)
  · refine TC.seq ?_
    -- region 2
    refine TC.region ?_
    refine TL.valE rfl (Val.assign 1 rfl rfl) (by simp only [St.put, List.set_cons_succ, List.set_cons_zero]; rfl) ?_
    refine TL.nil ?_
    show TC _ _ _ _ _ _
    refine TC.ret ?_
    exact ⟨.inr rfl, [_], [_], _, rfl, by decide, rfl, by simp [refV, refC, valC], rfl, resV (by simp at *; intro e; subst e; simp at hb)⟩
  · refine TC.skip ?_
    show TC _ _ _ _ _ _
    refine TC.seq ?_
    refine TC.seq ?_
    have hl : xs.length = ys.length := by simp at hb; omega
    -- region 3
    refine TC.region ?_
    refine TL.valE rfl (Val.assign 1 rfl rfl) (by simp only [St.put, List.set_cons_succ, List.set_cons_zero]; rfl) ?_
    refine TL.nil ?_
    show TC _ _ _ _ _ _
    refine TC.block ?_
    refine TC.loop (fun μ st => ∃ k : Nat, (k ≤ xs.length ∧ xs.take k = ys.take k) ∧ μ = xs.length - k ∧ Can st ⟨[L 2 (xs.map dIns), L 2 (ys.map dIns), .one .dead, .one .dead, .one .dead, I k, .one .dead, .one .dead, .one .dead, .one .dead, .one .dead, .one .dead, .one .dead, .one .dead, .one .dead, .one .dead, .one .dead, .one .dead, .one .dead, .one .dead, .one .dead, .one .dead, .one .dead, .one .dead, .one .dead, .one .dead], []⟩) (xs.length) ?_ fun μ st hI => ?_
    · refine ⟨0, by simp, by simp, ?_⟩
      exact Can.to (by repeat first | exact LessT.nil | refine LessT.drop ?_ | refine LessT.keep ?_ | refine LessT.eq (by simp) ?_) (by repeat first | exact .nil | refine .cons rfl rfl ?_)
    · obtain ⟨k, hyp, rfl, hcan⟩ := hI
      refine TC.can hcan ?_
      clear hcan
      refine TC.seq ?_
      refine TC.seq ?_
      -- region 4
      refine TC.region ?_
      refine TL.valE rfl (Val.move 1 rfl rfl) (by simp only [St.put, List.set_cons_succ, List.set_cons_zero]; rfl) ?_
      refine TL.valE rfl (Val.move 1 rfl rfl) (by simp only [St.put, List.set_cons_succ, List.set_cons_zero]; rfl) ?_
      refine TL.valE rfl (by first | exact Val.len rfl rfl rfl rfl | exact Val.lenS rfl rfl rfl) (by simp only [St.put, List.set_cons_succ, List.set_cons_zero]; rfl) ?_
      refine TL.valE rfl (Val.lss rfl rfl rfl) (by simp only [St.put, List.set_cons_succ, List.set_cons_zero]; rfl) ?_
      refine TL.nil ?_
      show TC _ _ _ _ _ _
      refine TC.cond rfl (fun hb => ?_) (fun hb => ?_)
      · refine TC.skip ?_
        show TC _ _ _ _ _ _
        refine TC.seq ?_
        refine TC.block ?_
        refine TC.seq ?_
        have hk : k < xs.length := by simpa using hb
        obtain ⟨x, hx⟩ := at_of (xs := xs) (k := k) hk
        obtain ⟨y, hy⟩ := at_of (xs := ys) (k := k) (by omega)
        -- region 6
        refine TC.regionQ rfl (by decide +kernel) ?_
        refine TQ.valE rfl (Val.move 1 rfl rfl) (by simp only [St.put, List.set_cons_succ, List.set_cons_zero]; rfl) ?_
        refine TQ.valE rfl (Val.move 1 rfl rfl) (by simp only [St.put, List.set_cons_succ, List.set_cons_zero]; rfl) ?_
        refine TQ.valE rfl (by exact Val.indexC (d := dIns x) rfl rfl rfl rfl rfl (by omega) (by simp [hx])) (by simp only [St.put, List.set_cons_succ, List.set_cons_zero]; rfl) ?_
        refine TQ.valE rfl (by first | exact Val.load rfl rfl rfl rfl rfl | exact Val.loadC rfl rfl rfl | exact Val.loadAgg rfl rfl rfl rfl rfl rfl | exact Val.loadCAgg rfl rfl rfl rfl (Nat.le_of_ble_eq_true rfl)) (by simp only [St.put, List.set_cons_succ, List.set_cons_zero, valC]; rfl) ?_
        refine TQ.valE rfl (Val.move 1 rfl rfl) (by simp only [St.put, List.set_cons_succ, List.set_cons_zero]; rfl) ?_
        refine TQ.valE rfl (Val.move 1 rfl rfl) (by simp only [St.put, List.set_cons_succ, List.set_cons_zero]; rfl) ?_
        refine TQ.valE rfl (by exact Val.indexC (d := dIns y) rfl rfl rfl rfl rfl (by omega) (by simp [hy])) (by simp only [St.put, List.set_cons_succ, List.set_cons_zero]; rfl) ?_
        refine TQ.valE rfl (by first | exact Val.load rfl rfl rfl rfl rfl | exact Val.loadC rfl rfl rfl | exact Val.loadAgg rfl rfl rfl rfl rfl rfl | exact Val.loadCAgg rfl rfl rfl rfl (Nat.le_of_ble_eq_true rfl)) (by simp only [St.put, List.set_cons_succ, List.set_cons_zero, valC]; rfl) ?_
        refine TQ.valE rfl (Val.neqA rfl rfl rfl rfl rfl rfl (by kernel_rfl) (by kernel_rfl) rfl) (by simp only [St.put, List.set_cons_succ, List.set_cons_zero]; rfl) ?_
        refine TQ.nil ?_
        show TC _ _ _ _ _ _
        refine TC.cond rfl (fun hb => ?_) (fun hb => ?_)
        · refine TC.seq ?_
          -- region 7
          refine TC.region ?_
          refine TL.valE rfl (Val.assign 1 rfl rfl) (by simp only [St.put, List.set_cons_succ, List.set_cons_zero]; rfl) ?_
          refine TL.nil ?_
          show TC _ _ _ _ _ _
          refine TC.ret ?_
          exact ⟨.inr rfl, [_], [_], _, rfl, by decide, rfl, by simp [refV, refC, valC], rfl, resV (by simp at *; exact eq_off hx hy (by rintro rfl; cases x; simp [eqVs, eqV] at hb))⟩
        · refine TC.skip ?_
          show TC _ _ _ _ _ _
          -- region 5
          refine TC.region ?_
          refine TL.valE rfl (Val.move 1 rfl rfl) (by simp only [St.put, List.set_cons_succ, List.set_cons_zero]; rfl) ?_
          refine TL.valE rfl (Val.add rfl rfl rfl (by first | omega | (simp only [List.length_map]; omega)) (by first | omega | (simp only [List.length_map]; omega))) (by simp only [St.put, List.set_cons_succ, List.set_cons_zero]; rfl) ?_
          refine TL.valE rfl (Val.assign 1 rfl rfl) (by simp only [St.put, List.set_cons_succ, List.set_cons_zero]; rfl) ?_
          refine TL.nil ?_
          refine Seq.normal ⟨_, ?_, k + 1, ?_, rfl, ?_⟩
          · omega
          · exact ⟨by omega, eq_step hyp.2 hx (by have e : x = y := (by cases x; cases y; simp_all [eqVs, eqV]); rw [e]; exact hy)⟩
          · exact Can.to (by repeat first | exact LessT.nil | refine LessT.drop ?_ | refine LessT.keep ?_ | refine LessT.eq (by simp) ?_) (by repeat first | exact .nil | refine .cons rfl rfl ?_)
      · refine TC.exit ?_
        -- exit 0
        show TC _ _ _ _ _ _
        refine TC.seq ?_
        -- region 8
        refine TC.region ?_
        refine TL.valE rfl (Val.assign 1 rfl rfl) (by simp only [St.put, List.set_cons_succ, List.set_cons_zero]; rfl) ?_
        refine TL.nil ?_
        show TC _ _ _ _ _ _
        refine TC.ret ?_
        exact ⟨.inr rfl, [_], [_], _, rfl, by decide, rfl, by simp [refV, refC, valC], rfl, resV (by simp at *; exact eq_all hl hyp.2 hb)⟩

-- loop.example/g00975/spec.SameTable: params ['[]impl.Slot', '[]impl.Slot'] results ['bool'] ('arr', [('app', 'Go.ResultVar.tmp', ['4'])])
theorem spec_SameTable_f (xs ys : List VSlot) : Fun Try.prog 64 [L 2 (xs.map dSlot), L 2 (ys.map dSlot)] (RV (.bool (decide (xs = ys)))) := by
  refine Fun.of Try.func64 rfl (by simp [Try.ntmps64]) fun w g0 => ?_
  simp only [Try.ntmps64, List.length_cons, List.length_nil, Nat.reduceAdd, Nat.reduceSub, List.replicate, List.cons_append, List.nil_append]
  refine TC.most (i := 0) rfl rfl fun hm0 => ?_
  simp only [most, List.length_map] at hm0
  refine TC.seq ?_
  -- region 0
  refine TC.region ?_
  refine TL.valE rfl (Val.assign 1 rfl rfl) (by simp only [St.put, List.set_cons_succ, List.set_cons_zero]; rfl) ?_
  refine TL.nil ?_
  show TC _ _ _ _ _ _
  refine TC.seq ?_
  refine TC.seq ?_
  -- region 1
  refine TC.region ?_
  refine TL.valE rfl (Val.move 1 rfl rfl) (by simp only [St.put, List.set_cons_succ, List.set_cons_zero]; rfl) ?_
  refine TL.valE rfl (by first | exact Val.len rfl rfl rfl rfl | exact Val.lenS rfl rfl rfl) (by simp only [St.put, List.set_cons_succ, List.set_cons_zero]; rfl) ?_
  refine TL.valE rfl (Val.move 1 rfl rfl) (by simp only [St.put, List.set_cons_succ, List.set_cons_zero]; rfl) ?_
  refine TL.valE rfl (by first | exact Val.len rfl rfl rfl rfl | exact Val.lenS rfl rfl rfl) (by simp only [St.put, List.set_cons_succ, List.set_cons_zero]; rfl) ?_
  refine TL.valE rfl (Val.neq rfl rfl rfl) (by simp only [St.put, List.set_cons_succ, List.set_cons_zero]; rfl) ?_
  refine TL.nil ?_
  show TC _ _ _ _ _ _
  refine TC.cond rfl (fun hb => ?_) (fun hb => ?_)
  · refine TC.seq ?_
    -- region 2
    refine TC.region ?_
    refine TL.valE rfl (Val.assign 1 rfl rfl) (by simp only [St.put, List.set_cons_succ, List.set_cons_zero]; rfl) ?_
    refine TL.nil ?_
    show TC _ _ _ _ _ _
    refine TC.ret ?_
    exact ⟨.inr rfl, [_], [_], _, rfl, by decide, rfl, by simp [refV, refC, valC], rfl, resV (by simp at *; intro e; subst e; simp at hb)⟩
  · refine TC.skip ?_
    show TC _ _ _ _ _ _
    refine TC.seq ?_
    refine TC.seq ?_
    have hl : xs.length = ys.length := by simp at hb; omega
    -- region 3
    refine TC.region ?_
    refine TL.valE rfl (Val.assign 1 rfl rfl) (by simp only [St.put, List.set_cons_succ, List.set_cons_zero]; rfl) ?_
    refine TL.nil ?_
    show TC _ _ _ _ _ _
    refine TC.block ?_
    refine TC.loop (fun μ st => ∃ k : Nat, (k ≤ xs.length ∧ xs.take k = ys.take k) ∧ μ = xs.length - k ∧ Can st ⟨[L 2 (xs.map dSlot), L 2 (ys.map dSlot), .one .dead, .one .dead, .one .dead, I k, .one .dead, .one .dead, .one .dead, .one .dead, .one .dead, .one .dead, .one .dead, .one .dead, .one .dead, .one .dead, .one .dead, .one .dead, .one .dead, .one .dead, .one .dead, .one .dead, .one .dead, .one .dead, .one .dead, .one .dead], []⟩) (xs.length) ?_ fun μ st hI => ?_
    · refine ⟨0, by simp, by simp, ?_⟩
      exact Can.to (by repeat first | exact LessT.nil | refine LessT.drop ?_ | refine LessT.keep ?_ | refine LessT.eq (by simp) ?_) (by repeat first | exact .nil | refine .cons rfl rfl ?_)
    · obtain ⟨k, hyp, rfl, hcan⟩ := hI
      refine TC.can hcan ?_
      clear hcan
      refine TC.seq ?_
      refine TC.seq ?_
      -- region 4
      refine TC.region ?_
      refine TL.valE rfl (Val.move 1 rfl rfl) (by simp only [St.put, List.set_cons_succ, List.set_cons_zero]; rfl) ?_
      refine TL.valE rfl (Val.move 1 rfl rfl) (by simp only [St.put, List.set_cons_succ, List.set_cons_zero]; rfl) ?_
      refine TL.valE rfl (by first | exact Val.len rfl rfl rfl rfl | exact Val.lenS rfl rfl rfl) (by simp only [St.put, List.set_cons_succ, List.set_cons_zero]; rfl) ?_
      refine TL.valE rfl (Val.lss rfl rfl rfl) (by simp only [St.put, List.set_cons_succ, List.set_cons_zero]; rfl) ?_
      refine TL.nil ?_
      show TC _ _ _ _ _ _
      refine TC.cond rfl (fun hb => ?_) (fun hb => ?_)
      · refine TC.skip ?_
        show TC _ _ _ _ _ _
        refine TC.seq ?_
        refine TC.block ?_
        refine TC.seq ?_
        have hk : k < xs.length := by simpa using hb
        obtain ⟨x, hx⟩ := at_of (xs := xs) (k := k) hk
        obtain ⟨y, hy⟩ := at_of (xs := ys) (k := k) (by omega)
        -- region 6
        refine TC.regionQ rfl (by decide +kernel) ?_
        refine TQ.valE rfl (Val.move 1 rfl rfl) (by simp only [St.put, List.set_cons_succ, List.set_cons_zero]; rfl) ?_
        refine TQ.valE rfl (Val.move 1 rfl rfl) (by simp only [St.put, List.set_cons_succ, List.set_cons_zero]; rfl) ?_
        refine TQ.valE rfl (by exact Val.indexC (d := dSlot x) rfl rfl rfl rfl rfl (by omega) (by simp [hx])) (by simp only [St.put, List.set_cons_succ, List.set_cons_zero]; rfl) ?_
        refine TQ.valE rfl (by first | exact Val.load rfl rfl rfl rfl rfl | exact Val.loadC rfl rfl rfl | exact Val.loadAgg rfl rfl rfl rfl rfl rfl | exact Val.loadCAgg rfl rfl rfl rfl (Nat.le_of_ble_eq_true rfl)) (by simp only [St.put, List.set_cons_succ, List.set_cons_zero, valC]; rfl) ?_
        refine TQ.valE rfl (Val.move 1 rfl rfl) (by simp only [St.put, List.set_cons_succ, List.set_cons_zero]; rfl) ?_
        refine TQ.valE rfl (Val.move 1 rfl rfl) (by simp only [St.put, List.set_cons_succ, List.set_cons_zero]; rfl) ?_
        refine TQ.valE rfl (by exact Val.indexC (d := dSlot y) rfl rfl rfl rfl rfl (by omega) (by simp [hy])) (by simp only [St.put, List.set_cons_succ, List.set_cons_zero]; rfl) ?_
        refine TQ.valE rfl (by first | exact Val.load rfl rfl rfl rfl rfl | exact Val.loadC rfl rfl rfl | exact Val.loadAgg rfl rfl rfl rfl rfl rfl | exact Val.loadCAgg rfl rfl rfl rfl (Nat.le_of_ble_eq_true rfl)) (by simp only [St.put, List.set_cons_succ, List.set_cons_zero, valC]; rfl) ?_
        refine TQ.valE rfl (Val.neqA rfl rfl rfl rfl rfl rfl (by kernel_rfl) (by kernel_rfl) rfl) (by simp only [St.put, List.set_cons_succ, List.set_cons_zero]; rfl) ?_
        refine TQ.nil ?_
        show TC _ _ _ _ _ _
        refine TC.cond rfl (fun hb => ?_) (fun hb => ?_)
        · refine TC.seq ?_
          -- region 7
          refine TC.region ?_
          refine TL.valE rfl (Val.assign 1 rfl rfl) (by simp only [St.put, List.set_cons_succ, List.set_cons_zero]; rfl) ?_
          refine TL.nil ?_
          show TC _ _ _ _ _ _
          refine TC.ret ?_
          exact ⟨.inr rfl, [_], [_], _, rfl, by decide, rfl, by simp [refV, refC, valC], rfl, resV (by simp at *; exact eq_off hx hy (by rintro rfl; cases x; simp [eqVs, eqV] at hb))⟩
        · refine TC.skip ?_
          show TC _ _ _ _ _ _
          -- region 5
          refine TC.region ?_
          refine TL.valE rfl (Val.move 1 rfl rfl) (by simp only [St.put, List.set_cons_succ, List.set_cons_zero]; rfl) ?_
          refine TL.valE rfl (Val.add rfl rfl rfl (by first | omega | (simp only [List.length_map]; omega)) (by first | omega | (simp only [List.length_map]; omega))) (by simp only [St.put, List.set_cons_succ, List.set_cons_zero]; rfl) ?_
          refine TL.valE rfl (Val.assign 1 rfl rfl) (by simp only [St.put, List.set_cons_succ, List.set_cons_zero]; rfl) ?_
          refine TL.nil ?_
          refine Seq.normal ⟨_, ?_, k + 1, ?_, rfl, ?_⟩
          · omega
          · exact ⟨by omega, eq_step hyp.2 hx (by have e : x = y := (by cases x; cases y; simp_all [eqVs, eqV]); rw [e]; exact hy)⟩
          · exact Can.to (by repeat first | exact LessT.nil | refine LessT.drop ?_ | refine LessT.keep ?_ | refine LessT.eq (by simp) ?_) (by repeat first | exact .nil | refine .cons rfl rfl ?_)
      · refine TC.exit ?_
        -- exit 0
        show TC _ _ _ _ _ _
        refine TC.seq ?_
        -- region 8
        refine TC.region ?_
        refine TL.valE rfl (Val.assign 1 rfl rfl) (by simp only [St.put, List.set_cons_succ, List.set_cons_zero]; rfl) ?_
        refine TL.nil ?_
        show TC _ _ _ _ _ _
        refine TC.ret ?_
        exact ⟨.inr rfl, [_], [_], _, rfl, by decide, rfl, by simp [refV, refC, valC], rfl, resV (by simp at *; exact eq_all hl hyp.2 hb)⟩

-- loop.example/g00975/spec.SameMem: params ['[][]int', '[][]int'] results ['bool'] ('arr', [('app', 'Go.ResultVar.tmp', ['4'])])
theorem spec_SameMem_f (xs ys : List (List Int)) : Fun Try.prog 28 [L 1 (xs.map dIntS), L 1 (ys.map dIntS)] (RV (.bool (decide (xs = ys)))) := by
  refine Fun.of Try.func28 rfl (by simp [Try.ntmps28]) fun w g0 => ?_
  simp only [Try.ntmps28, List.length_cons, List.length_nil, Nat.reduceAdd, Nat.reduceSub, List.replicate, List.cons_append, List.nil_append]
  refine TC.most (i := 0) rfl rfl fun hm0 => ?_
  simp only [most, List.length_map] at hm0
  refine TC.seq ?_
  -- region 0
  refine TC.region ?_
  refine TL.valE rfl (Val.assign 1 rfl rfl) (by simp only [St.put, List.set_cons_succ, List.set_cons_zero]; rfl) ?_
  refine TL.nil ?_
  show TC _ _ _ _ _ _
  refine TC.seq ?_
  refine TC.seq ?_
  -- region 1
  refine TC.region ?_
  refine TL.valE rfl (Val.move 1 rfl rfl) (by simp only [St.put, List.set_cons_succ, List.set_cons_zero]; rfl) ?_
  refine TL.valE rfl (by first | exact Val.len rfl rfl rfl rfl | exact Val.lenS rfl rfl rfl) (by simp only [St.put, List.set_cons_succ, List.set_cons_zero]; rfl) ?_
  refine TL.valE rfl (Val.move 1 rfl rfl) (by simp only [St.put, List.set_cons_succ, List.set_cons_zero]; rfl) ?_
  refine TL.valE rfl (by first | exact Val.len rfl rfl rfl rfl | exact Val.lenS rfl rfl rfl) (by simp only [St.put, List.set_cons_succ, List.set_cons_zero]; rfl) ?_
  refine TL.valE rfl (Val.neq rfl rfl rfl) (by simp only [St.put, List.set_cons_succ, List.set_cons_zero]; rfl) ?_
  refine TL.nil ?_
  show TC _ _ _ _ _ _
  refine TC.cond rfl (fun hb => ?_) (fun hb => ?_)
  · refine TC.seq ?_
    -- region 2
    refine TC.region ?_
    refine TL.valE rfl (Val.assign 1 rfl rfl) (by simp only [St.put, List.set_cons_succ, List.set_cons_zero]; rfl) ?_
    refine TL.nil ?_
    show TC _ _ _ _ _ _
    refine TC.ret ?_
    exact ⟨.inr rfl, [_], [_], _, rfl, by decide, rfl, by simp [refV, refC, valC], rfl, resV (by simp at *; intro e; subst e; simp at hb)⟩
  · refine TC.skip ?_
    show TC _ _ _ _ _ _
    refine TC.seq ?_
    refine TC.seq ?_
    have hl : xs.length = ys.length := by simp at hb; omega
    -- region 3
    refine TC.region ?_
    refine TL.valE rfl (Val.assign 1 rfl rfl) (by simp only [St.put, List.set_cons_succ, List.set_cons_zero]; rfl) ?_
    refine TL.nil ?_
    show TC _ _ _ _ _ _
    refine TC.block ?_
    refine TC.loop (fun μ st => ∃ k : Nat, (k ≤ xs.length ∧ xs.take k = ys.take k) ∧ μ = xs.length - k ∧ Can st ⟨[L 1 (xs.map dIntS), L 1 (ys.map dIntS), .one .dead, .one .dead, .one .dead, I k, .one .dead, .one .dead, .one .dead, .one .dead, .one .dead, .one .dead, .one .dead, .one .dead, .one .dead, .one .dead, .one .dead, .one .dead, .one .dead, .one .dead, .one .dead, .one .dead, .one .dead, .one .dead, .one .dead, .one .dead, .one .dead], []⟩) (xs.length) ?_ fun μ st hI => ?_
    · refine ⟨0, by simp, by simp, ?_⟩
      exact Can.to (by repeat first | exact LessT.nil | refine LessT.drop ?_ | refine LessT.keep ?_ | refine LessT.eq (by simp) ?_) (by repeat first | exact .nil | refine .cons rfl rfl ?_)
    · obtain ⟨k, hyp, rfl, hcan⟩ := hI
      refine TC.can hcan ?_
      clear hcan
      refine TC.seq ?_
      refine TC.seq ?_
      -- region 4
      refine TC.region ?_
      refine TL.valE rfl (Val.move 1 rfl rfl) (by simp only [St.put, List.set_cons_succ, List.set_cons_zero]; rfl) ?_
      refine TL.valE rfl (Val.move 1 rfl rfl) (by simp only [St.put, List.set_cons_succ, List.set_cons_zero]; rfl) ?_
      refine TL.valE rfl (by first | exact Val.len rfl rfl rfl rfl | exact Val.lenS rfl rfl rfl) (by simp only [St.put, List.set_cons_succ, List.set_cons_zero]; rfl) ?_
      refine TL.valE rfl (Val.lss rfl rfl rfl) (by simp only [St.put, List.set_cons_succ, List.set_cons_zero]; rfl) ?_
      refine TL.nil ?_
      show TC _ _ _ _ _ _
      refine TC.cond rfl (fun hb => ?_) (fun hb => ?_)
      · refine TC.skip ?_
        show TC _ _ _ _ _ _
        refine TC.seq ?_
        refine TC.block ?_
        refine TC.seq ?_
        have hk : k < xs.length := by simpa using hb
        obtain ⟨x, hx⟩ := at_of (xs := xs) (k := k) hk
        obtain ⟨y, hy⟩ := at_of (xs := ys) (k := k) (by omega)
        -- region 6
        refine TC.regionQ rfl (by decide +kernel) ?_
        refine TQ.valE rfl (Val.move 1 rfl rfl) (by simp only [St.put, List.set_cons_succ, List.set_cons_zero]; rfl) ?_
        refine TQ.valE rfl (Val.move 1 rfl rfl) (by simp only [St.put, List.set_cons_succ, List.set_cons_zero]; rfl) ?_
        refine TQ.valE rfl (by exact Val.indexC (d := dIntS x) rfl rfl rfl rfl rfl (by omega) (by simp [hx])) (by simp only [St.put, List.set_cons_succ, List.set_cons_zero]; rfl) ?_
        refine TQ.valE rfl (by first | exact Val.load rfl rfl rfl rfl rfl | exact Val.loadC rfl rfl rfl | exact Val.loadAgg rfl rfl rfl rfl rfl rfl | exact Val.loadCAgg rfl rfl rfl rfl (Nat.le_of_ble_eq_true rfl)) (by simp only [St.put, List.set_cons_succ, List.set_cons_zero, valC]; rfl) ?_
        refine TQ.valE rfl (Val.move 1 rfl rfl) (by simp only [St.put, List.set_cons_succ, List.set_cons_zero]; rfl) ?_
        refine TQ.valE rfl (Val.move 1 rfl rfl) (by simp only [St.put, List.set_cons_succ, List.set_cons_zero]; rfl) ?_
        refine TQ.valE rfl (by exact Val.indexC (d := dIntS y) rfl rfl rfl rfl rfl (by omega) (by simp [hy])) (by simp only [St.put, List.set_cons_succ, List.set_cons_zero]; rfl) ?_
        refine TQ.valE rfl (by first | exact Val.load rfl rfl rfl rfl rfl | exact Val.loadC rfl rfl rfl | exact Val.loadAgg rfl rfl rfl rfl rfl rfl | exact Val.loadCAgg rfl rfl rfl rfl (Nat.le_of_ble_eq_true rfl)) (by simp only [St.put, List.set_cons_succ, List.set_cons_zero, valC]; rfl) ?_
        refine TQ.callF (yes_none rfl) rfl rfl rfl rfl rfl rfl (spec_l04Ints_f x y) (by repeat first | exact .nil | refine Snaps.cons (.ro _) ?_ | refine Snaps.cons (.aggRo rfl) ?_ | refine Snaps.cons (.cptr _) ?_ | refine Snaps.cons (.fn _) ?_ | refine Snaps.cons (.ownRef rfl (by first | assumption | exact w_IntS _ | exact w_IntSS _ | exact w_InsS _ | exact w_SlotS _ | exact w_GuestS _ | exact w_BareS _)) ?_ | refine Snaps.cons (.aggR (by repeat first | exact .nil | refine SnapCs.cons (.ro _) ?_ | refine SnapCs.cons (.ref rfl (by first | assumption | exact w_IntS _ | exact w_IntSS _ | exact w_InsS _ | exact w_SlotS _ | exact w_GuestS _ | exact w_BareS _)) ?_)) ?_) rfl (by simp only [St.put, List.set_cons_succ, List.set_cons_zero]; rfl) ?_
        refine TQ.valE rfl (Val.not rfl rfl) (by simp only [St.put, List.set_cons_succ, List.set_cons_zero]; rfl) ?_
        refine TQ.nil ?_
        show TC _ _ _ _ _ _
        refine TC.cond rfl (fun hb => ?_) (fun hb => ?_)
        · refine TC.seq ?_
          -- region 7
          refine TC.region ?_
          refine TL.valE rfl (Val.assign 1 rfl rfl) (by simp only [St.put, List.set_cons_succ, List.set_cons_zero]; rfl) ?_
          refine TL.nil ?_
          show TC _ _ _ _ _ _
          refine TC.ret ?_
          exact ⟨.inr rfl, [_], [_], _, rfl, by decide, rfl, by simp [refV, refC, valC], rfl, resV (by simp at *; exact eq_off hx hy hb)⟩
        · refine TC.skip ?_
          show TC _ _ _ _ _ _
          -- region 5
          refine TC.region ?_
          refine TL.valE rfl (Val.move 1 rfl rfl) (by simp only [St.put, List.set_cons_succ, List.set_cons_zero]; rfl) ?_
          refine TL.valE rfl (Val.add rfl rfl rfl (by first | omega | (simp only [List.length_map]; omega)) (by first | omega | (simp only [List.length_map]; omega))) (by simp only [St.put, List.set_cons_succ, List.set_cons_zero]; rfl) ?_
          refine TL.valE rfl (Val.assign 1 rfl rfl) (by simp only [St.put, List.set_cons_succ, List.set_cons_zero]; rfl) ?_
          refine TL.nil ?_
          refine Seq.normal ⟨_, ?_, k + 1, ?_, rfl, ?_⟩
          · omega
          · exact ⟨by omega, eq_step hyp.2 hx (by simp at hb; rw [hb]; exact hy)⟩
          · exact Can.to (by repeat first | exact LessT.nil | refine LessT.drop ?_ | refine LessT.keep ?_ | refine LessT.eq (by simp) ?_) (by repeat first | exact .nil | refine .cons rfl rfl ?_)
      · refine TC.exit ?_
        -- exit 0
        show TC _ _ _ _ _ _
        refine TC.seq ?_
        -- region 8
        refine TC.region ?_
        refine TL.valE rfl (Val.assign 1 rfl rfl) (by simp only [St.put, List.set_cons_succ, List.set_cons_zero]; rfl) ?_
        refine TL.nil ?_
        show TC _ _ _ _ _ _
        refine TC.ret ?_
        exact ⟨.inr rfl, [_], [_], _, rfl, by decide, rfl, by simp [refV, refC, valC], rfl, resV (by simp at *; exact eq_all hl hyp.2 hb)⟩

-- loop.example/g00975/spec.SameGuest: params ['impl.Guest = loop.example/g00975/impl.Guest', 'impl.Guest = loop.example/g00975/impl.Guest'] results ['bool'] ('arr', [('app', 'Go.ResultVar.tmp', ['4'])])
theorem spec_SameGuest_f (x y : VGuest) : Fun Try.prog 43 [A (rGuest x), A (rGuest y)] (RV (.bool (decide (x = y)))) := by
  refine Fun.of Try.func43 rfl (by simp [Try.ntmps43]) fun w g0 => ?_
  simp only [Try.ntmps43, List.length_cons, List.length_nil, Nat.reduceAdd, Nat.reduceSub, List.replicate, List.cons_append, List.nil_append]
  refine TC.seq ?_
  -- region 0
  refine TC.region ?_
  refine TL.opK rfl fun K hK => ?_
  first | refine OpT.box rfl rfl (z := 1) rfl (by simp) ?_ | refine OpT.boxAgg rfl rfl rfl ?_ -- 2
  simp only [St.fresh, St.kill, St.setRoot, St.put, St.renew, TS.kill, TV.kill, C.kill, Rt.kill, boxC, List.map_cons, List.map_nil, List.filter_cons, List.filter_nil, List.set_cons_succ, List.set_cons_zero, List.contains_cons, List.contains_nil, Nat.reduceBEq, Nat.reduceBNe, St.wrote, hitR, hitP, shapeOf, List.isPrefixOf, List.append_eq, Bool.and_true, Bool.true_and, Bool.and_false, Bool.false_and, List.nil_append, List.cons_append, beq_self_eq_true, bne_self_eq_false, Bool.or_false, Bool.or_true, Bool.not_true, Bool.not_false, Bool.false_eq_true, if_true, if_false, reduceIte, resT, valsD, refsD, refD, nextD, nextsD, cellsD, isSl, List.append_nil]
  refine hK _ ?_
  clear hK K
  refine TL.opK rfl fun K hK => ?_
  first | refine OpT.box rfl rfl (z := 1) rfl (by simp) ?_ | refine OpT.boxAgg rfl rfl rfl ?_ -- 3
  simp only [St.fresh, St.kill, St.setRoot, St.put, St.renew, TS.kill, TV.kill, C.kill, Rt.kill, boxC, List.map_cons, List.map_nil, List.filter_cons, List.filter_nil, List.set_cons_succ, List.set_cons_zero, List.contains_cons, List.contains_nil, Nat.reduceBEq, Nat.reduceBNe, St.wrote, hitR, hitP, shapeOf, List.isPrefixOf, List.append_eq, Bool.and_true, Bool.true_and, Bool.and_false, Bool.false_and, List.nil_append, List.cons_append, beq_self_eq_true, bne_self_eq_false, Bool.or_false, Bool.or_true, Bool.not_true, Bool.not_false, Bool.false_eq_true, if_true, if_false, reduceIte, resT, valsD, refsD, refD, nextD, nextsD, cellsD, isSl, List.append_nil]
  refine hK _ ?_
  clear hK K
  refine TL.valE rfl (Val.assign 1 rfl rfl) (by simp only [St.put, List.set_cons_succ, List.set_cons_zero]; rfl) ?_
  refine TL.nil ?_
  show TC _ _ _ _ _ _
  refine TC.seq ?_
  -- region 1
  refine TC.region ?_
  refine TL.valE rfl (by first | exact Val.field rfl rfl rfl | exact Val.fieldC rfl rfl rfl) (by simp only [St.put, List.set_cons_succ, List.set_cons_zero, List.getElem_toArray, List.getElem_cons_succ, List.getElem_cons_zero, Nat.zero_add, Nat.reduceAdd]; rfl) ?_
  refine TL.valE rfl (by first | exact Val.load rfl rfl rfl rfl rfl | exact Val.loadC rfl rfl rfl | exact Val.loadAgg rfl rfl rfl rfl rfl rfl | exact Val.loadCAgg rfl rfl rfl rfl (Nat.le_of_ble_eq_true rfl)) (by simp only [St.put, List.set_cons_succ, List.set_cons_zero, valC]; rfl) ?_
  refine TL.valE rfl (by first | exact Val.field rfl rfl rfl | exact Val.fieldC rfl rfl rfl) (by simp only [St.put, List.set_cons_succ, List.set_cons_zero, List.getElem_toArray, List.getElem_cons_succ, List.getElem_cons_zero, Nat.zero_add, Nat.reduceAdd]; rfl) ?_
  refine TL.valE rfl (by first | exact Val.load rfl rfl rfl rfl rfl | exact Val.loadC rfl rfl rfl | exact Val.loadAgg rfl rfl rfl rfl rfl rfl | exact Val.loadCAgg rfl rfl rfl rfl (Nat.le_of_ble_eq_true rfl)) (by simp only [St.put, List.set_cons_succ, List.set_cons_zero, valC]; rfl) ?_
  refine TL.callF (yes_none rfl) rfl rfl rfl rfl rfl rfl (spec_SameProg_f x.Prog y.Prog) (by repeat first | exact .nil | refine Snaps.cons (.ro _) ?_ | refine Snaps.cons (.aggRo rfl) ?_ | refine Snaps.cons (.cptr _) ?_ | refine Snaps.cons (.fn _) ?_ | refine Snaps.cons (.ownRef rfl (by first | assumption | exact w_IntS _ | exact w_IntSS _ | exact w_InsS _ | exact w_SlotS _ | exact w_GuestS _ | exact w_BareS _)) ?_ | refine Snaps.cons (.aggR (by repeat first | exact .nil | refine SnapCs.cons (.ro _) ?_ | refine SnapCs.cons (.ref rfl (by first | assumption | exact w_IntS _ | exact w_IntSS _ | exact w_InsS _ | exact w_SlotS _ | exact w_GuestS _ | exact w_BareS _)) ?_)) ?_) rfl (by simp only [St.put, List.set_cons_succ, List.set_cons_zero]; rfl) ?_
  refine TL.valE rfl (Val.move 1 rfl rfl) (by simp only [St.put, List.set_cons_succ, List.set_cons_zero]; rfl) ?_
  refine TL.splitG 5 rfl (fun hg5 => ?_) (fun hg5 => ?_)
  · refine TL.guardE rfl rfl hg5 (by first | exact Val.field rfl rfl rfl | exact Val.fieldC rfl rfl rfl) (by simp only [St.put, List.set_cons_succ, List.set_cons_zero, List.getElem_toArray, List.getElem_cons_succ, List.getElem_cons_zero, Nat.zero_add, Nat.reduceAdd]; rfl) ?_
    refine TL.guardE rfl rfl hg5 (by first | exact Val.load rfl rfl rfl rfl rfl | exact Val.loadC rfl rfl rfl | exact Val.loadAgg rfl rfl rfl rfl rfl rfl | exact Val.loadCAgg rfl rfl rfl rfl (Nat.le_of_ble_eq_true rfl)) (by simp only [St.put, List.set_cons_succ, List.set_cons_zero, valC]; rfl) ?_
    refine TL.guardE rfl rfl hg5 (by first | exact Val.field rfl rfl rfl | exact Val.fieldC rfl rfl rfl) (by simp only [St.put, List.set_cons_succ, List.set_cons_zero, List.getElem_toArray, List.getElem_cons_succ, List.getElem_cons_zero, Nat.zero_add, Nat.reduceAdd]; rfl) ?_
    refine TL.guardE rfl rfl hg5 (by first | exact Val.load rfl rfl rfl rfl rfl | exact Val.loadC rfl rfl rfl | exact Val.loadAgg rfl rfl rfl rfl rfl rfl | exact Val.loadCAgg rfl rfl rfl rfl (Nat.le_of_ble_eq_true rfl)) (by simp only [St.put, List.set_cons_succ, List.set_cons_zero, valC]; rfl) ?_
    refine TL.guardE rfl rfl hg5 (Val.eql rfl rfl rfl) (by simp only [St.put, List.set_cons_succ, List.set_cons_zero]; rfl) ?_
    refine TL.valE rfl (Val.pickT rfl rfl hg5 rfl) (by simp only [St.put, List.set_cons_succ, List.set_cons_zero]; rfl) ?_
    refine TL.valE rfl (Val.move 1 rfl rfl) (by simp only [St.put, List.set_cons_succ, List.set_cons_zero]; rfl) ?_
    refine TL.splitG 12 rfl (fun hg12 => ?_) (fun hg12 => ?_)
    · refine TL.guardE rfl rfl hg12 (by first | exact Val.field rfl rfl rfl | exact Val.fieldC rfl rfl rfl) (by simp only [St.put, List.set_cons_succ, List.set_cons_zero, List.getElem_toArray, List.getElem_cons_succ, List.getElem_cons_zero, Nat.zero_add, Nat.reduceAdd]; rfl) ?_
      refine TL.guardE rfl rfl hg12 (by first | exact Val.load rfl rfl rfl rfl rfl | exact Val.loadC rfl rfl rfl | exact Val.loadAgg rfl rfl rfl rfl rfl rfl | exact Val.loadCAgg rfl rfl rfl rfl (Nat.le_of_ble_eq_true rfl)) (by simp only [St.put, List.set_cons_succ, List.set_cons_zero, valC]; rfl) ?_
      refine TL.guardE rfl rfl hg12 (by first | exact Val.field rfl rfl rfl | exact Val.fieldC rfl rfl rfl) (by simp only [St.put, List.set_cons_succ, List.set_cons_zero, List.getElem_toArray, List.getElem_cons_succ, List.getElem_cons_zero, Nat.zero_add, Nat.reduceAdd]; rfl) ?_
      refine TL.guardE rfl rfl hg12 (by first | exact Val.load rfl rfl rfl rfl rfl | exact Val.loadC rfl rfl rfl | exact Val.loadAgg rfl rfl rfl rfl rfl rfl | exact Val.loadCAgg rfl rfl rfl rfl (Nat.le_of_ble_eq_true rfl)) (by simp only [St.put, List.set_cons_succ, List.set_cons_zero, valC]; rfl) ?_
      refine TL.guardE rfl rfl hg12 (Val.eql rfl rfl rfl) (by simp only [St.put, List.set_cons_succ, List.set_cons_zero]; rfl) ?_
      refine TL.valE rfl (Val.pickT rfl rfl hg12 rfl) (by simp only [St.put, List.set_cons_succ, List.set_cons_zero]; rfl) ?_
      refine TL.valE rfl (Val.move 1 rfl rfl) (by simp only [St.put, List.set_cons_succ, List.set_cons_zero]; rfl) ?_
      refine TL.splitG 19 rfl (fun hg19 => ?_) (fun hg19 => ?_)
      · refine TL.guardE rfl rfl hg19 (by first | exact Val.field rfl rfl rfl | exact Val.fieldC rfl rfl rfl) (by simp only [St.put, List.set_cons_succ, List.set_cons_zero, List.getElem_toArray, List.getElem_cons_succ, List.getElem_cons_zero, Nat.zero_add, Nat.reduceAdd]; rfl) ?_
        refine TL.guardE rfl rfl hg19 (by first | exact Val.load rfl rfl rfl rfl rfl | exact Val.loadC rfl rfl rfl | exact Val.loadAgg rfl rfl rfl rfl rfl rfl | exact Val.loadCAgg rfl rfl rfl rfl (Nat.le_of_ble_eq_true rfl)) (by simp only [St.put, List.set_cons_succ, List.set_cons_zero, valC]; rfl) ?_
        refine TL.guardE rfl rfl hg19 (by first | exact Val.field rfl rfl rfl | exact Val.fieldC rfl rfl rfl) (by simp only [St.put, List.set_cons_succ, List.set_cons_zero, List.getElem_toArray, List.getElem_cons_succ, List.getElem_cons_zero, Nat.zero_add, Nat.reduceAdd]; rfl) ?_
        refine TL.guardE rfl rfl hg19 (by first | exact Val.load rfl rfl rfl rfl rfl | exact Val.loadC rfl rfl rfl | exact Val.loadAgg rfl rfl rfl rfl rfl rfl | exact Val.loadCAgg rfl rfl rfl rfl (Nat.le_of_ble_eq_true rfl)) (by simp only [St.put, List.set_cons_succ, List.set_cons_zero, valC]; rfl) ?_
        refine TL.callF (yes_some rfl rfl hg19) rfl rfl rfl rfl rfl rfl (spec_SameTable_f x.Written y.Written) (by repeat first | exact .nil | refine Snaps.cons (.ro _) ?_ | refine Snaps.cons (.aggRo rfl) ?_ | refine Snaps.cons (.cptr _) ?_ | refine Snaps.cons (.fn _) ?_ | refine Snaps.cons (.ownRef rfl (by first | assumption | exact w_IntS _ | exact w_IntSS _ | exact w_InsS _ | exact w_SlotS _ | exact w_GuestS _ | exact w_BareS _)) ?_ | refine Snaps.cons (.aggR (by repeat first | exact .nil | refine SnapCs.cons (.ro _) ?_ | refine SnapCs.cons (.ref rfl (by first | assumption | exact w_IntS _ | exact w_IntSS _ | exact w_InsS _ | exact w_SlotS _ | exact w_GuestS _ | exact w_BareS _)) ?_)) ?_) rfl (by simp only [St.put, List.set_cons_succ, List.set_cons_zero]; rfl) ?_
        refine TL.valE rfl (Val.pickT rfl rfl hg19 rfl) (by simp only [St.put, List.set_cons_succ, List.set_cons_zero]; rfl) ?_
        refine TL.valE rfl (Val.move 1 rfl rfl) (by simp only [St.put, List.set_cons_succ, List.set_cons_zero]; rfl) ?_
        refine TL.splitG 26 rfl (fun hg26 => ?_) (fun hg26 => ?_)
        · refine TL.guardE rfl rfl hg26 (by first | exact Val.field rfl rfl rfl | exact Val.fieldC rfl rfl rfl) (by simp only [St.put, List.set_cons_succ, List.set_cons_zero, List.getElem_toArray, List.getElem_cons_succ, List.getElem_cons_zero, Nat.zero_add, Nat.reduceAdd]; rfl) ?_
          refine TL.guardE rfl rfl hg26 (by first | exact Val.load rfl rfl rfl rfl rfl | exact Val.loadC rfl rfl rfl | exact Val.loadAgg rfl rfl rfl rfl rfl rfl | exact Val.loadCAgg rfl rfl rfl rfl (Nat.le_of_ble_eq_true rfl)) (by simp only [St.put, List.set_cons_succ, List.set_cons_zero, valC]; rfl) ?_
          refine TL.guardE rfl rfl hg26 (by first | exact Val.field rfl rfl rfl | exact Val.fieldC rfl rfl rfl) (by simp only [St.put, List.set_cons_succ, List.set_cons_zero, List.getElem_toArray, List.getElem_cons_succ, List.getElem_cons_zero, Nat.zero_add, Nat.reduceAdd]; rfl) ?_
          refine TL.guardE rfl rfl hg26 (by first | exact Val.load rfl rfl rfl rfl rfl | exact Val.loadC rfl rfl rfl | exact Val.loadAgg rfl rfl rfl rfl rfl rfl | exact Val.loadCAgg rfl rfl rfl rfl (Nat.le_of_ble_eq_true rfl)) (by simp only [St.put, List.set_cons_succ, List.set_cons_zero, valC]; rfl) ?_
          refine TL.callF (yes_some rfl rfl hg26) rfl rfl rfl rfl rfl rfl (spec_SameTable_f x.Live y.Live) (by repeat first | exact .nil | refine Snaps.cons (.ro _) ?_ | refine Snaps.cons (.aggRo rfl) ?_ | refine Snaps.cons (.cptr _) ?_ | refine Snaps.cons (.fn _) ?_ | refine Snaps.cons (.ownRef rfl (by first | assumption | exact w_IntS _ | exact w_IntSS _ | exact w_InsS _ | exact w_SlotS _ | exact w_GuestS _ | exact w_BareS _)) ?_ | refine Snaps.cons (.aggR (by repeat first | exact .nil | refine SnapCs.cons (.ro _) ?_ | refine SnapCs.cons (.ref rfl (by first | assumption | exact w_IntS _ | exact w_IntSS _ | exact w_InsS _ | exact w_SlotS _ | exact w_GuestS _ | exact w_BareS _)) ?_)) ?_) rfl (by simp only [St.put, List.set_cons_succ, List.set_cons_zero]; rfl) ?_
          refine TL.valE rfl (Val.pickT rfl rfl hg26 rfl) (by simp only [St.put, List.set_cons_succ, List.set_cons_zero]; rfl) ?_
          refine TL.valE rfl (Val.move 1 rfl rfl) (by simp only [St.put, List.set_cons_succ, List.set_cons_zero]; rfl) ?_
          refine TL.splitG 33 rfl (fun hg33 => ?_) (fun hg33 => ?_)
          · refine TL.guardE rfl rfl hg33 (by first | exact Val.field rfl rfl rfl | exact Val.fieldC rfl rfl rfl) (by simp only [St.put, List.set_cons_succ, List.set_cons_zero, List.getElem_toArray, List.getElem_cons_succ, List.getElem_cons_zero, Nat.zero_add, Nat.reduceAdd]; rfl) ?_
            refine TL.guardE rfl rfl hg33 (by first | exact Val.load rfl rfl rfl rfl rfl | exact Val.loadC rfl rfl rfl | exact Val.loadAgg rfl rfl rfl rfl rfl rfl | exact Val.loadCAgg rfl rfl rfl rfl (Nat.le_of_ble_eq_true rfl)) (by simp only [St.put, List.set_cons_succ, List.set_cons_zero, valC]; rfl) ?_
            refine TL.guardE rfl rfl hg33 (by first | exact Val.field rfl rfl rfl | exact Val.fieldC rfl rfl rfl) (by simp only [St.put, List.set_cons_succ, List.set_cons_zero, List.getElem_toArray, List.getElem_cons_succ, List.getElem_cons_zero, Nat.zero_add, Nat.reduceAdd]; rfl) ?_
            refine TL.guardE rfl rfl hg33 (by first | exact Val.load rfl rfl rfl rfl rfl | exact Val.loadC rfl rfl rfl | exact Val.loadAgg rfl rfl rfl rfl rfl rfl | exact Val.loadCAgg rfl rfl rfl rfl (Nat.le_of_ble_eq_true rfl)) (by simp only [St.put, List.set_cons_succ, List.set_cons_zero, valC]; rfl) ?_
            refine TL.guardE rfl rfl hg33 (Val.eqlA rfl rfl rfl rfl rfl rfl (by kernel_rfl) (by kernel_rfl) rfl) (by simp only [St.put, List.set_cons_succ, List.set_cons_zero]; rfl) ?_
            refine TL.valE rfl (Val.pickT rfl rfl hg33 rfl) (by simp only [St.put, List.set_cons_succ, List.set_cons_zero]; rfl) ?_
            refine TL.valE rfl (Val.move 1 rfl rfl) (by simp only [St.put, List.set_cons_succ, List.set_cons_zero]; rfl) ?_
            refine TL.splitG 40 rfl (fun hg40 => ?_) (fun hg40 => ?_)
            · refine TL.guardE rfl rfl hg40 (by first | exact Val.field rfl rfl rfl | exact Val.fieldC rfl rfl rfl) (by simp only [St.put, List.set_cons_succ, List.set_cons_zero, List.getElem_toArray, List.getElem_cons_succ, List.getElem_cons_zero, Nat.zero_add, Nat.reduceAdd]; rfl) ?_
              refine TL.guardE rfl rfl hg40 (by first | exact Val.load rfl rfl rfl rfl rfl | exact Val.loadC rfl rfl rfl | exact Val.loadAgg rfl rfl rfl rfl rfl rfl | exact Val.loadCAgg rfl rfl rfl rfl (Nat.le_of_ble_eq_true rfl)) (by simp only [St.put, List.set_cons_succ, List.set_cons_zero, valC]; rfl) ?_
              refine TL.guardE rfl rfl hg40 (by first | exact Val.field rfl rfl rfl | exact Val.fieldC rfl rfl rfl) (by simp only [St.put, List.set_cons_succ, List.set_cons_zero, List.getElem_toArray, List.getElem_cons_succ, List.getElem_cons_zero, Nat.zero_add, Nat.reduceAdd]; rfl) ?_
              refine TL.guardE rfl rfl hg40 (by first | exact Val.load rfl rfl rfl rfl rfl | exact Val.loadC rfl rfl rfl | exact Val.loadAgg rfl rfl rfl rfl rfl rfl | exact Val.loadCAgg rfl rfl rfl rfl (Nat.le_of_ble_eq_true rfl)) (by simp only [St.put, List.set_cons_succ, List.set_cons_zero, valC]; rfl) ?_
              refine TL.guardE rfl rfl hg40 (Val.eql rfl rfl rfl) (by simp only [St.put, List.set_cons_succ, List.set_cons_zero]; rfl) ?_
              refine TL.valE rfl (Val.pickT rfl rfl hg40 rfl) (by simp only [St.put, List.set_cons_succ, List.set_cons_zero]; rfl) ?_
              refine TL.valE rfl (Val.move 1 rfl rfl) (by simp only [St.put, List.set_cons_succ, List.set_cons_zero]; rfl) ?_
              refine TL.splitG 47 rfl (fun hg47 => ?_) (fun hg47 => ?_)
              · refine TL.guardE rfl rfl hg47 (by first | exact Val.field rfl rfl rfl | exact Val.fieldC rfl rfl rfl) (by simp only [St.put, List.set_cons_succ, List.set_cons_zero, List.getElem_toArray, List.getElem_cons_succ, List.getElem_cons_zero, Nat.zero_add, Nat.reduceAdd]; rfl) ?_
                refine TL.guardE rfl rfl hg47 (by first | exact Val.load rfl rfl rfl rfl rfl | exact Val.loadC rfl rfl rfl | exact Val.loadAgg rfl rfl rfl rfl rfl rfl | exact Val.loadCAgg rfl rfl rfl rfl (Nat.le_of_ble_eq_true rfl)) (by simp only [St.put, List.set_cons_succ, List.set_cons_zero, valC]; rfl) ?_
                refine TL.guardE rfl rfl hg47 (by first | exact Val.field rfl rfl rfl | exact Val.fieldC rfl rfl rfl) (by simp only [St.put, List.set_cons_succ, List.set_cons_zero, List.getElem_toArray, List.getElem_cons_succ, List.getElem_cons_zero, Nat.zero_add, Nat.reduceAdd]; rfl) ?_
                refine TL.guardE rfl rfl hg47 (by first | exact Val.load rfl rfl rfl rfl rfl | exact Val.loadC rfl rfl rfl | exact Val.loadAgg rfl rfl rfl rfl rfl rfl | exact Val.loadCAgg rfl rfl rfl rfl (Nat.le_of_ble_eq_true rfl)) (by simp only [St.put, List.set_cons_succ, List.set_cons_zero, valC]; rfl) ?_
                refine TL.guardE rfl rfl hg47 (Val.eqlA rfl rfl rfl rfl rfl rfl (by kernel_rfl) (by kernel_rfl) rfl) (by simp only [St.put, List.set_cons_succ, List.set_cons_zero]; rfl) ?_
                refine TL.valE rfl (Val.pickT rfl rfl hg47 rfl) (by simp only [St.put, List.set_cons_succ, List.set_cons_zero]; rfl) ?_
                refine TL.valE rfl (Val.move 1 rfl rfl) (by simp only [St.put, List.set_cons_succ, List.set_cons_zero]; rfl) ?_
                refine TL.splitG 54 rfl (fun hg54 => ?_) (fun hg54 => ?_)
                · refine TL.guardE rfl rfl hg54 (by first | exact Val.field rfl rfl rfl | exact Val.fieldC rfl rfl rfl) (by simp only [St.put, List.set_cons_succ, List.set_cons_zero, List.getElem_toArray, List.getElem_cons_succ, List.getElem_cons_zero, Nat.zero_add, Nat.reduceAdd]; rfl) ?_
                  refine TL.guardE rfl rfl hg54 (by first | exact Val.load rfl rfl rfl rfl rfl | exact Val.loadC rfl rfl rfl | exact Val.loadAgg rfl rfl rfl rfl rfl rfl | exact Val.loadCAgg rfl rfl rfl rfl (Nat.le_of_ble_eq_true rfl)) (by simp only [St.put, List.set_cons_succ, List.set_cons_zero, valC]; rfl) ?_
                  refine TL.guardE rfl rfl hg54 (by first | exact Val.field rfl rfl rfl | exact Val.fieldC rfl rfl rfl) (by simp only [St.put, List.set_cons_succ, List.set_cons_zero, List.getElem_toArray, List.getElem_cons_succ, List.getElem_cons_zero, Nat.zero_add, Nat.reduceAdd]; rfl) ?_
                  refine TL.guardE rfl rfl hg54 (by first | exact Val.load rfl rfl rfl rfl rfl | exact Val.loadC rfl rfl rfl | exact Val.loadAgg rfl rfl rfl rfl rfl rfl | exact Val.loadCAgg rfl rfl rfl rfl (Nat.le_of_ble_eq_true rfl)) (by simp only [St.put, List.set_cons_succ, List.set_cons_zero, valC]; rfl) ?_
                  refine TL.guardE rfl rfl hg54 (Val.eqlB rfl rfl rfl rfl) (by simp only [St.put, List.set_cons_succ, List.set_cons_zero]; rfl) ?_
                  refine TL.valE rfl (Val.pickT rfl rfl hg54 rfl) (by simp only [St.put, List.set_cons_succ, List.set_cons_zero]; rfl) ?_
                  refine TL.valE rfl (Val.move 1 rfl rfl) (by simp only [St.put, List.set_cons_succ, List.set_cons_zero]; rfl) ?_
                  refine TL.splitG 61 rfl (fun hg61 => ?_) (fun hg61 => ?_)
                  · refine TL.guardE rfl rfl hg61 (by first | exact Val.field rfl rfl rfl | exact Val.fieldC rfl rfl rfl) (by simp only [St.put, List.set_cons_succ, List.set_cons_zero, List.getElem_toArray, List.getElem_cons_succ, List.getElem_cons_zero, Nat.zero_add, Nat.reduceAdd]; rfl) ?_
                    refine TL.guardE rfl rfl hg61 (by first | exact Val.load rfl rfl rfl rfl rfl | exact Val.loadC rfl rfl rfl | exact Val.loadAgg rfl rfl rfl rfl rfl rfl | exact Val.loadCAgg rfl rfl rfl rfl (Nat.le_of_ble_eq_true rfl)) (by simp only [St.put, List.set_cons_succ, List.set_cons_zero, valC]; rfl) ?_
                    refine TL.guardE rfl rfl hg61 (by first | exact Val.field rfl rfl rfl | exact Val.fieldC rfl rfl rfl) (by simp only [St.put, List.set_cons_succ, List.set_cons_zero, List.getElem_toArray, List.getElem_cons_succ, List.getElem_cons_zero, Nat.zero_add, Nat.reduceAdd]; rfl) ?_
                    refine TL.guardE rfl rfl hg61 (by first | exact Val.load rfl rfl rfl rfl rfl | exact Val.loadC rfl rfl rfl | exact Val.loadAgg rfl rfl rfl rfl rfl rfl | exact Val.loadCAgg rfl rfl rfl rfl (Nat.le_of_ble_eq_true rfl)) (by simp only [St.put, List.set_cons_succ, List.set_cons_zero, valC]; rfl) ?_
                    refine TL.callF (yes_some rfl rfl hg61) rfl rfl rfl rfl rfl rfl (spec_l04Ints_f x.Seen y.Seen) (by repeat first | exact .nil | refine Snaps.cons (.ro _) ?_ | refine Snaps.cons (.aggRo rfl) ?_ | refine Snaps.cons (.cptr _) ?_ | refine Snaps.cons (.fn _) ?_ | refine Snaps.cons (.ownRef rfl (by first | assumption | exact w_IntS _ | exact w_IntSS _ | exact w_InsS _ | exact w_SlotS _ | exact w_GuestS _ | exact w_BareS _)) ?_ | refine Snaps.cons (.aggR (by repeat first | exact .nil | refine SnapCs.cons (.ro _) ?_ | refine SnapCs.cons (.ref rfl (by first | assumption | exact w_IntS _ | exact w_IntSS _ | exact w_InsS _ | exact w_SlotS _ | exact w_GuestS _ | exact w_BareS _)) ?_)) ?_) rfl (by simp only [St.put, List.set_cons_succ, List.set_cons_zero]; rfl) ?_
                    refine TL.valE rfl (Val.pickT rfl rfl hg61 rfl) (by simp only [St.put, List.set_cons_succ, List.set_cons_zero]; rfl) ?_
                    refine TL.valE rfl (Val.assign 1 rfl rfl) (by simp only [St.put, List.set_cons_succ, List.set_cons_zero]; rfl) ?_
                    refine TL.nil ?_
                    show TC _ _ _ _ _ _
                    refine TC.ret ?_
                    exact ⟨.inr rfl, [_], [_], _, rfl, by decide, rfl, by simp [refV, refC, valC], rfl, resV (by simp_all [eq_Ins, eq_Slot, eq_Ctl, eq_Exit, eq_Guest, eqVs, eqV])⟩
                  · iterate 5 (refine TL.guardN rfl rfl hg61 (by simp only [St.put, List.set_cons_succ, List.set_cons_zero]; rfl) ?_)
                    refine TL.valE rfl (Val.pickF rfl rfl hg61 rfl) (by simp only [St.put, List.set_cons_succ, List.set_cons_zero]; rfl) ?_
                    refine TL.valE rfl (Val.assign 1 rfl rfl) (by simp only [St.put, List.set_cons_succ, List.set_cons_zero]; rfl) ?_
                    refine TL.nil ?_
                    show TC _ _ _ _ _ _
                    refine TC.ret ?_
                    exact ⟨.inr rfl, [_], [_], _, rfl, by decide, rfl, by simp [refV, refC, valC], rfl, resV (by simp_all [eq_Ins, eq_Slot, eq_Ctl, eq_Exit, eq_Guest, eqVs, eqV])⟩
                · iterate 5 (refine TL.guardN rfl rfl hg54 (by simp only [St.put, List.set_cons_succ, List.set_cons_zero]; rfl) ?_)
                  refine TL.valE rfl (Val.pickF rfl rfl hg54 rfl) (by simp only [St.put, List.set_cons_succ, List.set_cons_zero]; rfl) ?_
                  refine TL.valE rfl (Val.move 1 rfl rfl) (by simp only [St.put, List.set_cons_succ, List.set_cons_zero]; rfl) ?_
                  iterate 5 (refine TL.guardN rfl rfl rfl (by simp only [St.put, List.set_cons_succ, List.set_cons_zero]; rfl) ?_)
                  refine TL.valE rfl (Val.pickF rfl rfl rfl rfl) (by simp only [St.put, List.set_cons_succ, List.set_cons_zero]; rfl) ?_
                  refine TL.valE rfl (Val.assign 1 rfl rfl) (by simp only [St.put, List.set_cons_succ, List.set_cons_zero]; rfl) ?_
                  refine TL.nil ?_
                  show TC _ _ _ _ _ _
                  refine TC.ret ?_
                  exact ⟨.inr rfl, [_], [_], _, rfl, by decide, rfl, by simp [refV, refC, valC], rfl, resV (by simp_all [eq_Ins, eq_Slot, eq_Ctl, eq_Exit, eq_Guest, eqVs, eqV])⟩
              · iterate 5 (refine TL.guardN rfl rfl hg47 (by simp only [St.put, List.set_cons_succ, List.set_cons_zero]; rfl) ?_)
                refine TL.valE rfl (Val.pickF rfl rfl hg47 rfl) (by simp only [St.put, List.set_cons_succ, List.set_cons_zero]; rfl) ?_
                refine TL.valE rfl (Val.move 1 rfl rfl) (by simp only [St.put, List.set_cons_succ, List.set_cons_zero]; rfl) ?_
                iterate 5 (refine TL.guardN rfl rfl rfl (by simp only [St.put, List.set_cons_succ, List.set_cons_zero]; rfl) ?_)
                refine TL.valE rfl (Val.pickF rfl rfl rfl rfl) (by simp only [St.put, List.set_cons_succ, List.set_cons_zero]; rfl) ?_
                refine TL.valE rfl (Val.move 1 rfl rfl) (by simp only [St.put, List.set_cons_succ, List.set_cons_zero]; rfl) ?_
                iterate 5 (refine TL.guardN rfl rfl rfl (by simp only [St.put, List.set_cons_succ, List.set_cons_zero]; rfl) ?_)
                refine TL.valE rfl (Val.pickF rfl rfl rfl rfl) (by simp only [St.put, List.set_cons_succ, List.set_cons_zero]; rfl) ?_
                refine TL.valE rfl (Val.assign 1 rfl rfl) (by simp only [St.put, List.set_cons_succ, List.set_cons_zero]; rfl) ?_
                refine TL.nil ?_
                show TC _ _ _ _ _ _
                refine TC.ret ?_
                exact ⟨.inr rfl, [_], [_], _, rfl, by decide, rfl, by simp [refV, refC, valC], rfl, resV (by simp_all [eq_Ins, eq_Slot, eq_Ctl, eq_Exit, eq_Guest, eqVs, eqV])⟩
            · iterate 5 (refine TL.guardN rfl rfl hg40 (by simp only [St.put, List.set_cons_succ, List.set_cons_zero]; rfl) ?_)
              refine TL.valE rfl (Val.pickF rfl rfl hg40 rfl) (by simp only [St.put, List.set_cons_succ, List.set_cons_zero]; rfl) ?_
              refine TL.valE rfl (Val.move 1 rfl rfl) (by simp only [St.put, List.set_cons_succ, List.set_cons_zero]; rfl) ?_
              iterate 5 (refine TL.guardN rfl rfl rfl (by simp only [St.put, List.set_cons_succ, List.set_cons_zero]; rfl) ?_)
              refine TL.valE rfl (Val.pickF rfl rfl rfl rfl) (by simp only [St.put, List.set_cons_succ, List.set_cons_zero]; rfl) ?_
              refine TL.valE rfl (Val.move 1 rfl rfl) (by simp only [St.put, List.set_cons_succ, List.set_cons_zero]; rfl) ?_
              iterate 5 (refine TL.guardN rfl rfl rfl (by simp only [St.put, List.set_cons_succ, List.set_cons_zero]; rfl) ?_)
              refine TL.valE rfl (Val.pickF rfl rfl rfl rfl) (by simp only [St.put, List.set_cons_succ, List.set_cons_zero]; rfl) ?_
              refine TL.valE rfl (Val.move 1 rfl rfl) (by simp only [St.put, List.set_cons_succ, List.set_cons_zero]; rfl) ?_
              iterate 5 (refine TL.guardN rfl rfl rfl (by simp only [St.put, List.set_cons_succ, List.set_cons_zero]; rfl) ?_)
              refine TL.valE rfl (Val.pickF rfl rfl rfl rfl) (by simp only [St.put, List.set_cons_succ, List.set_cons_zero]; rfl) ?_
              refine TL.valE rfl (Val.assign 1 rfl rfl) (by simp only [St.put, List.set_cons_succ, List.set_cons_zero]; rfl) ?_
              refine TL.nil ?_
              show TC _ _ _ _ _ _
              refine TC.ret ?_
              exact ⟨.inr rfl, [_], [_], _, rfl, by decide, rfl, by simp [refV, refC, valC], rfl, resV (by simp_all [eq_Ins, eq_Slot, eq_Ctl, eq_Exit, eq_Guest, eqVs, eqV])⟩
          · iterate 5 (refine TL.guardN rfl rfl hg33 (by simp only [St.put, List.set_cons_succ, List.set_cons_zero]; rfl) ?_)
            refine TL.valE rfl (Val.pickF rfl rfl hg33 rfl) (by simp only [St.put, List.set_cons_succ, List.set_cons_zero]; rfl) ?_
            refine TL.valE rfl (Val.move 1 rfl rfl) (by simp only [St.put, List.set_cons_succ, List.set_cons_zero]; rfl) ?_
            iterate 5 (refine TL.guardN rfl rfl rfl (by simp only [St.put, List.set_cons_succ, List.set_cons_zero]; rfl) ?_)
            refine TL.valE rfl (Val.pickF rfl rfl rfl rfl) (by simp only [St.put, List.set_cons_succ, List.set_cons_zero]; rfl) ?_
            refine TL.valE rfl (Val.move 1 rfl rfl) (by simp only [St.put, List.set_cons_succ, List.set_cons_zero]; rfl) ?_
            iterate 5 (refine TL.guardN rfl rfl rfl (by simp only [St.put, List.set_cons_succ, List.set_cons_zero]; rfl) ?_)
            refine TL.valE rfl (Val.pickF rfl rfl rfl rfl) (by simp only [St.put, List.set_cons_succ, List.set_cons_zero]; rfl) ?_
            refine TL.valE rfl (Val.move 1 rfl rfl) (by simp only [St.put, List.set_cons_succ, List.set_cons_zero]; rfl) ?_
            iterate 5 (refine TL.guardN rfl rfl rfl (by simp only [St.put, List.set_cons_succ, List.set_cons_zero]; rfl) ?_)
            refine TL.valE rfl (Val.pickF rfl rfl rfl rfl) (by simp only [St.put, List.set_cons_succ, List.set_cons_zero]; rfl) ?_
            refine TL.valE rfl (Val.move 1 rfl rfl) (by simp only [St.put, List.set_cons_succ, List.set_cons_zero]; rfl) ?_
            iterate 5 (refine TL.guardN rfl rfl rfl (by simp only [St.put, List.set_cons_succ, List.set_cons_zero]; rfl) ?_)
            refine TL.valE rfl (Val.pickF rfl rfl rfl rfl) (by simp only [St.put, List.set_cons_succ, List.set_cons_zero]; rfl) ?_
            refine TL.valE rfl (Val.assign 1 rfl rfl) (by simp only [St.put, List.set_cons_succ, List.set_cons_zero]; rfl) ?_
            refine TL.nil ?_
            show TC _ _ _ _ _ _
            refine TC.ret ?_
            exact ⟨.inr rfl, [_], [_], _, rfl, by decide, rfl, by simp [refV, refC, valC], rfl, resV (by simp_all [eq_Ins, eq_Slot, eq_Ctl, eq_Exit, eq_Guest, eqVs, eqV])⟩
        · iterate 5 (refine TL.guardN rfl rfl hg26 (by simp only [St.put, List.set_cons_succ, List.set_cons_zero]; rfl) ?_)
          refine TL.valE rfl (Val.pickF rfl rfl hg26 rfl) (by simp only [St.put, List.set_cons_succ, List.set_cons_zero]; rfl) ?_
          refine TL.valE rfl (Val.move 1 rfl rfl) (by simp only [St.put, List.set_cons_succ, List.set_cons_zero]; rfl) ?_
          iterate 5 (refine TL.guardN rfl rfl rfl (by simp only [St.put, List.set_cons_succ, List.set_cons_zero]; rfl) ?_)
          refine TL.valE rfl (Val.pickF rfl rfl rfl rfl) (by simp only [St.put, List.set_cons_succ, List.set_cons_zero]; rfl) ?_
          refine TL.valE rfl (Val.move 1 rfl rfl) (by simp only [St.put, List.set_cons_succ, List.set_cons_zero]; rfl) ?_
          iterate 5 (refine TL.guardN rfl rfl rfl (by simp only [St.put, List.set_cons_succ, List.set_cons_zero]; rfl) ?_)
          refine TL.valE rfl (Val.pickF rfl rfl rfl rfl) (by simp only [St.put, List.set_cons_succ, List.set_cons_zero]; rfl) ?_
          refine TL.valE rfl (Val.move 1 rfl rfl) (by simp only [St.put, List.set_cons_succ, List.set_cons_zero]; rfl) ?_
          iterate 5 (refine TL.guardN rfl rfl rfl (by simp only [St.put, List.set_cons_succ, List.set_cons_zero]; rfl) ?_)
          refine TL.valE rfl (Val.pickF rfl rfl rfl rfl) (by simp only [St.put, List.set_cons_succ, List.set_cons_zero]; rfl) ?_
          refine TL.valE rfl (Val.move 1 rfl rfl) (by simp only [St.put, List.set_cons_succ, List.set_cons_zero]; rfl) ?_
          iterate 5 (refine TL.guardN rfl rfl rfl (by simp only [St.put, List.set_cons_succ, List.set_cons_zero]; rfl) ?_)
          refine TL.valE rfl (Val.pickF rfl rfl rfl rfl) (by simp only [St.put, List.set_cons_succ, List.set_cons_zero]; rfl) ?_
          refine TL.valE rfl (Val.move 1 rfl rfl) (by simp only [St.put, List.set_cons_succ, List.set_cons_zero]; rfl) ?_
          iterate 5 (refine TL.guardN rfl rfl rfl (by simp only [St.put, List.set_cons_succ, List.set_cons_zero]; rfl) ?_)
          refine TL.valE rfl (Val.pickF rfl rfl rfl rfl) (by simp only [St.put, List.set_cons_succ, List.set_cons_zero]; rfl) ?_
          refine TL.valE rfl (Val.assign 1 rfl rfl) (by simp only [St.put, List.set_cons_succ, List.set_cons_zero]; rfl) ?_
          refine TL.nil ?_
          show TC _ _ _ _ _ _
          refine TC.ret ?_
          exact ⟨.inr rfl, [_], [_], _, rfl, by decide, rfl, by simp [refV, refC, valC], rfl, resV (by simp_all [eq_Ins, eq_Slot, eq_Ctl, eq_Exit, eq_Guest, eqVs, eqV])⟩
      · iterate 5 (refine TL.guardN rfl rfl hg19 (by simp only [St.put, List.set_cons_succ, List.set_cons_zero]; rfl) ?_)
        refine TL.valE rfl (Val.pickF rfl rfl hg19 rfl) (by simp only [St.put, List.set_cons_succ, List.set_cons_zero]; rfl) ?_
        refine TL.valE rfl (Val.move 1 rfl rfl) (by simp only [St.put, List.set_cons_succ, List.set_cons_zero]; rfl) ?_
        iterate 5 (refine TL.guardN rfl rfl rfl (by simp only [St.put, List.set_cons_succ, List.set_cons_zero]; rfl) ?_)
        refine TL.valE rfl (Val.pickF rfl rfl rfl rfl) (by simp only [St.put, List.set_cons_succ, List.set_cons_zero]; rfl) ?_
        refine TL.valE rfl (Val.move 1 rfl rfl) (by simp only [St.put, List.set_cons_succ, List.set_cons_zero]; rfl) ?_
        iterate 5 (refine TL.guardN rfl rfl rfl (by simp only [St.put, List.set_cons_succ, List.set_cons_zero]; rfl) ?_)
        refine TL.valE rfl (Val.pickF rfl rfl rfl rfl) (by simp only [St.put, List.set_cons_succ, List.set_cons_zero]; rfl) ?_
        refine TL.valE rfl (Val.move 1 rfl rfl) (by simp only [St.put, List.set_cons_succ, List.set_cons_zero]; rfl) ?_
        iterate 5 (refine TL.guardN rfl rfl rfl (by simp only [St.put, List.set_cons_succ, List.set_cons_zero]; rfl) ?_)
        refine TL.valE rfl (Val.pickF rfl rfl rfl rfl) (by simp only [St.put, List.set_cons_succ, List.set_cons_zero]; rfl) ?_
        refine TL.valE rfl (Val.move 1 rfl rfl) (by simp only [St.put, List.set_cons_succ, List.set_cons_zero]; rfl) ?_
        iterate 5 (refine TL.guardN rfl rfl rfl (by simp only [St.put, List.set_cons_succ, List.set_cons_zero]; rfl) ?_)
        refine TL.valE rfl (Val.pickF rfl rfl rfl rfl) (by simp only [St.put, List.set_cons_succ, List.set_cons_zero]; rfl) ?_
        refine TL.valE rfl (Val.move 1 rfl rfl) (by simp only [St.put, List.set_cons_succ, List.set_cons_zero]; rfl) ?_
        iterate 5 (refine TL.guardN rfl rfl rfl (by simp only [St.put, List.set_cons_succ, List.set_cons_zero]; rfl) ?_)
        refine TL.valE rfl (Val.pickF rfl rfl rfl rfl) (by simp only [St.put, List.set_cons_succ, List.set_cons_zero]; rfl) ?_
        refine TL.valE rfl (Val.move 1 rfl rfl) (by simp only [St.put, List.set_cons_succ, List.set_cons_zero]; rfl) ?_
        iterate 5 (refine TL.guardN rfl rfl rfl (by simp only [St.put, List.set_cons_succ, List.set_cons_zero]; rfl) ?_)
        refine TL.valE rfl (Val.pickF rfl rfl rfl rfl) (by simp only [St.put, List.set_cons_succ, List.set_cons_zero]; rfl) ?_
        refine TL.valE rfl (Val.assign 1 rfl rfl) (by simp only [St.put, List.set_cons_succ, List.set_cons_zero]; rfl) ?_
        refine TL.nil ?_
        show TC _ _ _ _ _ _
        refine TC.ret ?_
        exact ⟨.inr rfl, [_], [_], _, rfl, by decide, rfl, by simp [refV, refC, valC], rfl, resV (by simp_all [eq_Ins, eq_Slot, eq_Ctl, eq_Exit, eq_Guest, eqVs, eqV])⟩
    · iterate 5 (refine TL.guardN rfl rfl hg12 (by simp only [St.put, List.set_cons_succ, List.set_cons_zero]; rfl) ?_)
      refine TL.valE rfl (Val.pickF rfl rfl hg12 rfl) (by simp only [St.put, List.set_cons_succ, List.set_cons_zero]; rfl) ?_
      refine TL.valE rfl (Val.move 1 rfl rfl) (by simp only [St.put, List.set_cons_succ, List.set_cons_zero]; rfl) ?_
      iterate 5 (refine TL.guardN rfl rfl rfl (by simp only [St.put, List.set_cons_succ, List.set_cons_zero]; rfl) ?_)
      refine TL.valE rfl (Val.pickF rfl rfl rfl rfl) (by simp only [St.put, List.set_cons_succ, List.set_cons_zero]; rfl) ?_
      refine TL.valE rfl (Val.move 1 rfl rfl) (by simp only [St.put, List.set_cons_succ, List.set_cons_zero]; rfl) ?_
      iterate 5 (refine TL.guardN rfl rfl rfl (by simp only [St.put, List.set_cons_succ, List.set_cons_zero]; rfl) ?_)
      refine TL.valE rfl (Val.pickF rfl rfl rfl rfl) (by simp only [St.put, List.set_cons_succ, List.set_cons_zero]; rfl) ?_
      refine TL.valE rfl (Val.move 1 rfl rfl) (by simp only [St.put, List.set_cons_succ, List.set_cons_zero]; rfl) ?_
      iterate 5 (refine TL.guardN rfl rfl rfl (by simp only [St.put, List.set_cons_succ, List.set_cons_zero]; rfl) ?_)
      refine TL.valE rfl (Val.pickF rfl rfl rfl rfl) (by simp only [St.put, List.set_cons_succ, List.set_cons_zero]; rfl) ?_
      refine TL.valE rfl (Val.move 1 rfl rfl) (by simp only [St.put, List.set_cons_succ, List.set_cons_zero]; rfl) ?_
      iterate 5 (refine TL.guardN rfl rfl rfl (by simp only [St.put, List.set_cons_succ, List.set_cons_zero]; rfl) ?_)
      refine TL.valE rfl (Val.pickF rfl rfl rfl rfl) (by simp only [St.put, List.set_cons_succ, List.set_cons_zero]; rfl) ?_
      refine TL.valE rfl (Val.move 1 rfl rfl) (by simp only [St.put, List.set_cons_succ, List.set_cons_zero]; rfl) ?_
      iterate 5 (refine TL.guardN rfl rfl rfl (by simp only [St.put, List.set_cons_succ, List.set_cons_zero]; rfl) ?_)
      refine TL.valE rfl (Val.pickF rfl rfl rfl rfl) (by simp only [St.put, List.set_cons_succ, List.set_cons_zero]; rfl) ?_
      refine TL.valE rfl (Val.move 1 rfl rfl) (by simp only [St.put, List.set_cons_succ, List.set_cons_zero]; rfl) ?_
      iterate 5 (refine TL.guardN rfl rfl rfl (by simp only [St.put, List.set_cons_succ, List.set_cons_zero]; rfl) ?_)
      refine TL.valE rfl (Val.pickF rfl rfl rfl rfl) (by simp only [St.put, List.set_cons_succ, List.set_cons_zero]; rfl) ?_
      refine TL.valE rfl (Val.move 1 rfl rfl) (by simp only [St.put, List.set_cons_succ, List.set_cons_zero]; rfl) ?_
      iterate 5 (refine TL.guardN rfl rfl rfl (by simp only [St.put, List.set_cons_succ, List.set_cons_zero]; rfl) ?_)
      refine TL.valE rfl (Val.pickF rfl rfl rfl rfl) (by simp only [St.put, List.set_cons_succ, List.set_cons_zero]; rfl) ?_
      refine TL.valE rfl (Val.assign 1 rfl rfl) (by simp only [St.put, List.set_cons_succ, List.set_cons_zero]; rfl) ?_
      refine TL.nil ?_
      show TC _ _ _ _ _ _
      refine TC.ret ?_
      exact ⟨.inr rfl, [_], [_], _, rfl, by decide, rfl, by simp [refV, refC, valC], rfl, resV (by simp_all [eq_Ins, eq_Slot, eq_Ctl, eq_Exit, eq_Guest, eqVs, eqV])⟩
  · iterate 5 (refine TL.guardN rfl rfl hg5 (by simp only [St.put, List.set_cons_succ, List.set_cons_zero]; rfl) ?_)
    refine TL.valE rfl (Val.pickF rfl rfl hg5 rfl) (by simp only [St.put, List.set_cons_succ, List.set_cons_zero]; rfl) ?_
    refine TL.valE rfl (Val.move 1 rfl rfl) (by simp only [St.put, List.set_cons_succ, List.set_cons_zero]; rfl) ?_
    iterate 5 (refine TL.guardN rfl rfl rfl (by simp only [St.put, List.set_cons_succ, List.set_cons_zero]; rfl) ?_)
    refine TL.valE rfl (Val.pickF rfl rfl rfl rfl) (by simp only [St.put, List.set_cons_succ, List.set_cons_zero]; rfl) ?_
    refine TL.valE rfl (Val.move 1 rfl rfl) (by simp only [St.put, List.set_cons_succ, List.set_cons_zero]; rfl) ?_
    iterate 5 (refine TL.guardN rfl rfl rfl (by simp only [St.put, List.set_cons_succ, List.set_cons_zero]; rfl) ?_)
    refine TL.valE rfl (Val.pickF rfl rfl rfl rfl) (by simp only [St.put, List.set_cons_succ, List.set_cons_zero]; rfl) ?_
    refine TL.valE rfl (Val.move 1 rfl rfl) (by simp only [St.put, List.set_cons_succ, List.set_cons_zero]; rfl) ?_
    iterate 5 (refine TL.guardN rfl rfl rfl (by simp only [St.put, List.set_cons_succ, List.set_cons_zero]; rfl) ?_)
    refine TL.valE rfl (Val.pickF rfl rfl rfl rfl) (by simp only [St.put, List.set_cons_succ, List.set_cons_zero]; rfl) ?_
    refine TL.valE rfl (Val.move 1 rfl rfl) (by simp only [St.put, List.set_cons_succ, List.set_cons_zero]; rfl) ?_
    iterate 5 (refine TL.guardN rfl rfl rfl (by simp only [St.put, List.set_cons_succ, List.set_cons_zero]; rfl) ?_)
    refine TL.valE rfl (Val.pickF rfl rfl rfl rfl) (by simp only [St.put, List.set_cons_succ, List.set_cons_zero]; rfl) ?_
    refine TL.valE rfl (Val.move 1 rfl rfl) (by simp only [St.put, List.set_cons_succ, List.set_cons_zero]; rfl) ?_
    iterate 5 (refine TL.guardN rfl rfl rfl (by simp only [St.put, List.set_cons_succ, List.set_cons_zero]; rfl) ?_)
    refine TL.valE rfl (Val.pickF rfl rfl rfl rfl) (by simp only [St.put, List.set_cons_succ, List.set_cons_zero]; rfl) ?_
    refine TL.valE rfl (Val.move 1 rfl rfl) (by simp only [St.put, List.set_cons_succ, List.set_cons_zero]; rfl) ?_
    iterate 5 (refine TL.guardN rfl rfl rfl (by simp only [St.put, List.set_cons_succ, List.set_cons_zero]; rfl) ?_)
    refine TL.valE rfl (Val.pickF rfl rfl rfl rfl) (by simp only [St.put, List.set_cons_succ, List.set_cons_zero]; rfl) ?_
    refine TL.valE rfl (Val.move 1 rfl rfl) (by simp only [St.put, List.set_cons_succ, List.set_cons_zero]; rfl) ?_
    iterate 5 (refine TL.guardN rfl rfl rfl (by simp only [St.put, List.set_cons_succ, List.set_cons_zero]; rfl) ?_)
    refine TL.valE rfl (Val.pickF rfl rfl rfl rfl) (by simp only [St.put, List.set_cons_succ, List.set_cons_zero]; rfl) ?_
    refine TL.valE rfl (Val.move 1 rfl rfl) (by simp only [St.put, List.set_cons_succ, List.set_cons_zero]; rfl) ?_
    iterate 5 (refine TL.guardN rfl rfl rfl (by simp only [St.put, List.set_cons_succ, List.set_cons_zero]; rfl) ?_)
    refine TL.valE rfl (Val.pickF rfl rfl rfl rfl) (by simp only [St.put, List.set_cons_succ, List.set_cons_zero]; rfl) ?_
    refine TL.valE rfl (Val.assign 1 rfl rfl) (by simp only [St.put, List.set_cons_succ, List.set_cons_zero]; rfl) ?_
    refine TL.nil ?_
    show TC _ _ _ _ _ _
    refine TC.ret ?_
    exact ⟨.inr rfl, [_], [_], _, rfl, by decide, rfl, by simp [refV, refC, valC], rfl, resV (by simp_all [eq_Ins, eq_Slot, eq_Ctl, eq_Exit, eq_Guest, eqVs, eqV])⟩

-- loop.example/g00975/spec.l17SameGuests: params ['[]impl.Guest', '[]impl.Guest'] results ['bool'] ('arr', [('app', 'Go.ResultVar.tmp', ['4'])])
theorem spec_l17SameGuests_f (xs ys : List VGuest) : Fun Try.prog 29 [L 15 (xs.map dGuest), L 15 (ys.map dGuest)] (RV (.bool (decide (xs = ys)))) := by
  refine Fun.of Try.func29 rfl (by simp [Try.ntmps29]) fun w g0 => ?_
  simp only [Try.ntmps29, List.length_cons, List.length_nil, Nat.reduceAdd, Nat.reduceSub, List.replicate, List.cons_append, List.nil_append]
  refine TC.most (i := 0) rfl rfl fun hm0 => ?_
  simp only [most, List.length_map] at hm0
  refine TC.seq ?_
  -- region 0
  refine TC.region ?_
  refine TL.valE rfl (Val.assign 1 rfl rfl) (by simp only [St.put, List.set_cons_succ, List.set_cons_zero]; rfl) ?_
  refine TL.nil ?_
  show TC _ _ _ _ _ _
  refine TC.seq ?_
  refine TC.seq ?_
  -- region 1
  refine TC.region ?_
  refine TL.valE rfl (Val.move 1 rfl rfl) (by simp only [St.put, List.set_cons_succ, List.set_cons_zero]; rfl) ?_
  refine TL.valE rfl (by first | exact Val.len rfl rfl rfl rfl | exact Val.lenS rfl rfl rfl) (by simp only [St.put, List.set_cons_succ, List.set_cons_zero]; rfl) ?_
  refine TL.valE rfl (Val.move 1 rfl rfl) (by simp only [St.put, List.set_cons_succ, List.set_cons_zero]; rfl) ?_
  refine TL.valE rfl (by first | exact Val.len rfl rfl rfl rfl | exact Val.lenS rfl rfl rfl) (by simp only [St.put, List.set_cons_succ, List.set_cons_zero]; rfl) ?_
  refine TL.valE rfl (Val.neq rfl rfl rfl) (by simp only [St.put, List.set_cons_succ, List.set_cons_zero]; rfl) ?_
  refine TL.nil ?_
  show TC _ _ _ _ _ _
  refine TC.cond rfl (fun hb => ?_) (fun hb => ?_)
  · refine TC.seq ?_
    -- region 2
    refine TC.region ?_
    refine TL.valE rfl (Val.assign 1 rfl rfl) (by simp only [St.put, List.set_cons_succ, List.set_cons_zero]; rfl) ?_
    refine TL.nil ?_
    show TC _ _ _ _ _ _
    refine TC.ret ?_
    exact ⟨.inr rfl, [_], [_], _, rfl, by decide, rfl, by simp [refV, refC, valC], rfl, resV (by simp at *; intro e; subst e; simp at hb)⟩
  · refine TC.skip ?_
    show TC _ _ _ _ _ _
    refine TC.seq ?_
    refine TC.seq ?_
    have hl : xs.length = ys.length := by simp at hb; omega
    -- region 3
    refine TC.region ?_
    refine TL.valE rfl (Val.assign 1 rfl rfl) (by simp only [St.put, List.set_cons_succ, List.set_cons_zero]; rfl) ?_
    refine TL.nil ?_
    show TC _ _ _ _ _ _
    refine TC.block ?_
    refine TC.loop (fun μ st => ∃ k : Nat, (k ≤ xs.length ∧ xs.take k = ys.take k) ∧ μ = xs.length - k ∧ Can st ⟨[L 15 (xs.map dGuest), L 15 (ys.map dGuest), .one .dead, .one .dead, .one .dead, I k, .one .dead, .one .dead, .one .dead, .one .dead, .one .dead, .one .dead, .one .dead, .one .dead, .one .dead, .one .dead, .one .dead, .one .dead, .one .dead, .one .dead, .one .dead, .one .dead, .one .dead, .one .dead, .one .dead, .one .dead, .one .dead], []⟩) (xs.length) ?_ fun μ st hI => ?_
    · refine ⟨0, by simp, by simp, ?_⟩
      exact Can.to (by repeat first | exact LessT.nil | refine LessT.drop ?_ | refine LessT.keep ?_ | refine LessT.eq (by simp) ?_) (by repeat first | exact .nil | refine .cons rfl rfl ?_)
    · obtain ⟨k, hyp, rfl, hcan⟩ := hI
      refine TC.can hcan ?_
      clear hcan
      refine TC.seq ?_
      refine TC.seq ?_
      -- region 4
      refine TC.region ?_
      refine TL.valE rfl (Val.move 1 rfl rfl) (by simp only [St.put, List.set_cons_succ, List.set_cons_zero]; rfl) ?_
      refine TL.valE rfl (Val.move 1 rfl rfl) (by simp only [St.put, List.set_cons_succ, List.set_cons_zero]; rfl) ?_
      refine TL.valE rfl (by first | exact Val.len rfl rfl rfl rfl | exact Val.lenS rfl rfl rfl) (by simp only [St.put, List.set_cons_succ, List.set_cons_zero]; rfl) ?_
      refine TL.valE rfl (Val.lss rfl rfl rfl) (by simp only [St.put, List.set_cons_succ, List.set_cons_zero]; rfl) ?_
      refine TL.nil ?_
      show TC _ _ _ _ _ _
      refine TC.cond rfl (fun hb => ?_) (fun hb => ?_)
      · refine TC.skip ?_
        show TC _ _ _ _ _ _
        refine TC.seq ?_
        refine TC.block ?_
        refine TC.seq ?_
        have hk : k < xs.length := by simpa using hb
        obtain ⟨x, hx⟩ := at_of (xs := xs) (k := k) hk
        obtain ⟨y, hy⟩ := at_of (xs := ys) (k := k) (by omega)
        -- region 6
        refine TC.regionQ rfl (by decide +kernel) ?_
        refine TQ.valE rfl (Val.move 1 rfl rfl) (by simp only [St.put, List.set_cons_succ, List.set_cons_zero]; rfl) ?_
        refine TQ.valE rfl (Val.move 1 rfl rfl) (by simp only [St.put, List.set_cons_succ, List.set_cons_zero]; rfl) ?_
        refine TQ.valE rfl (by exact Val.indexC (d := dGuest x) rfl rfl rfl rfl rfl (by omega) (by simp [hx])) (by simp only [St.put, List.set_cons_succ, List.set_cons_zero]; rfl) ?_
        refine TQ.valE rfl (by first | exact Val.load rfl rfl rfl rfl rfl | exact Val.loadC rfl rfl rfl | exact Val.loadAgg rfl rfl rfl rfl rfl rfl | exact Val.loadCAgg rfl rfl rfl rfl (Nat.le_of_ble_eq_true rfl)) (by simp only [St.put, List.set_cons_succ, List.set_cons_zero, valC]; rfl) ?_
        refine TQ.valE rfl (Val.move 1 rfl rfl) (by simp only [St.put, List.set_cons_succ, List.set_cons_zero]; rfl) ?_
        refine TQ.valE rfl (Val.move 1 rfl rfl) (by simp only [St.put, List.set_cons_succ, List.set_cons_zero]; rfl) ?_
        refine TQ.valE rfl (by exact Val.indexC (d := dGuest y) rfl rfl rfl rfl rfl (by omega) (by simp [hy])) (by simp only [St.put, List.set_cons_succ, List.set_cons_zero]; rfl) ?_
        refine TQ.valE rfl (by first | exact Val.load rfl rfl rfl rfl rfl | exact Val.loadC rfl rfl rfl | exact Val.loadAgg rfl rfl rfl rfl rfl rfl | exact Val.loadCAgg rfl rfl rfl rfl (Nat.le_of_ble_eq_true rfl)) (by simp only [St.put, List.set_cons_succ, List.set_cons_zero, valC]; rfl) ?_
        refine TQ.callF (yes_none rfl) rfl rfl rfl rfl rfl rfl (spec_SameGuest_f x y) (by repeat first | exact .nil | refine Snaps.cons (.ro _) ?_ | refine Snaps.cons (.aggRo rfl) ?_ | refine Snaps.cons (.cptr _) ?_ | refine Snaps.cons (.fn _) ?_ | refine Snaps.cons (.ownRef rfl (by first | assumption | exact w_IntS _ | exact w_IntSS _ | exact w_InsS _ | exact w_SlotS _ | exact w_GuestS _ | exact w_BareS _)) ?_ | refine Snaps.cons (.aggR (by repeat first | exact .nil | refine SnapCs.cons (.ro _) ?_ | refine SnapCs.cons (.ref rfl (by first | assumption | exact w_IntS _ | exact w_IntSS _ | exact w_InsS _ | exact w_SlotS _ | exact w_GuestS _ | exact w_BareS _)) ?_)) ?_) rfl (by simp only [St.put, List.set_cons_succ, List.set_cons_zero]; rfl) ?_
        refine TQ.valE rfl (Val.not rfl rfl) (by simp only [St.put, List.set_cons_succ, List.set_cons_zero]; rfl) ?_
        refine TQ.nil ?_
        show TC _ _ _ _ _ _
        refine TC.cond rfl (fun hb => ?_) (fun hb => ?_)
        · refine TC.seq ?_
          -- region 7
          refine TC.region ?_
          refine TL.valE rfl (Val.assign 1 rfl rfl) (by simp only [St.put, List.set_cons_succ, List.set_cons_zero]; rfl) ?_
          refine TL.nil ?_
          show TC _ _ _ _ _ _
          refine TC.ret ?_
          exact ⟨.inr rfl, [_], [_], _, rfl, by decide, rfl, by simp [refV, refC, valC], rfl, resV (by simp at *; exact eq_off hx hy hb)⟩
        · refine TC.skip ?_
          show TC _ _ _ _ _ _
          -- region 5
          refine TC.region ?_
          refine TL.valE rfl (Val.move 1 rfl rfl) (by simp only [St.put, List.set_cons_succ, List.set_cons_zero]; rfl) ?_
          refine TL.valE rfl (Val.add rfl rfl rfl (by first | omega | (simp only [List.length_map]; omega)) (by first | omega | (simp only [List.length_map]; omega))) (by simp only [St.put, List.set_cons_succ, List.set_cons_zero]; rfl) ?_
          refine TL.valE rfl (Val.assign 1 rfl rfl) (by simp only [St.put, List.set_cons_succ, List.set_cons_zero]; rfl) ?_
          refine TL.nil ?_
          refine Seq.normal ⟨_, ?_, k + 1, ?_, rfl, ?_⟩
          · omega
          · exact ⟨by omega, eq_step hyp.2 hx (by simp at hb; rw [hb]; exact hy)⟩
          · exact Can.to (by repeat first | exact LessT.nil | refine LessT.drop ?_ | refine LessT.keep ?_ | refine LessT.eq (by simp) ?_) (by repeat first | exact .nil | refine .cons rfl rfl ?_)
      · refine TC.exit ?_
        -- exit 0
        show TC _ _ _ _ _ _
        refine TC.seq ?_
        -- region 8
        refine TC.region ?_
        refine TL.valE rfl (Val.assign 1 rfl rfl) (by simp only [St.put, List.set_cons_succ, List.set_cons_zero]; rfl) ?_
        refine TL.nil ?_
        show TC _ _ _ _ _ _
        refine TC.ret ?_
        exact ⟨.inr rfl, [_], [_], _, rfl, by decide, rfl, by simp [refV, refC, valC], rfl, resV (by simp at *; exact eq_all hl hyp.2 hb)⟩

-- slices.Equal[[]int,int]: params ['[]int', '[]int'] results ['bool'] ('arr', [('app', 'Go.ResultVar.tmp', ['4'])])
theorem slices_Equal_Int_f (xs ys : List Int) : Fun Try.prog 20 [L 1 (xs.map dInt), L 1 (ys.map dInt)] (RV (.bool (decide (xs = ys)))) := by
  refine Fun.of Try.func20 rfl (by simp [Try.ntmps20]) fun w g0 => ?_
  simp only [Try.ntmps20, List.length_cons, List.length_nil, Nat.reduceAdd, Nat.reduceSub, List.replicate, List.cons_append, List.nil_append]
  refine TC.most (i := 0) rfl rfl fun hm0 => ?_
  simp only [most, List.length_map] at hm0
  refine TC.seq ?_
  -- region 0
  refine TC.region ?_
  refine TL.valE rfl (Val.assign 1 rfl rfl) (by simp only [St.put, List.set_cons_succ, List.set_cons_zero]; rfl) ?_
  refine TL.nil ?_
  show TC _ _ _ _ _ _
  refine TC.seq ?_
  refine TC.seq ?_
  -- region 1
  refine TC.region ?_
  refine TL.valE rfl (Val.move 1 rfl rfl) (by simp only [St.put, List.set_cons_succ, List.set_cons_zero]; rfl) ?_
  refine TL.valE rfl (by first | exact Val.len rfl rfl rfl rfl | exact Val.lenS rfl rfl rfl) (by simp only [St.put, List.set_cons_succ, List.set_cons_zero]; rfl) ?_
  refine TL.valE rfl (Val.move 1 rfl rfl) (by simp only [St.put, List.set_cons_succ, List.set_cons_zero]; rfl) ?_
  refine TL.valE rfl (by first | exact Val.len rfl rfl rfl rfl | exact Val.lenS rfl rfl rfl) (by simp only [St.put, List.set_cons_succ, List.set_cons_zero]; rfl) ?_
  refine TL.valE rfl (Val.neq rfl rfl rfl) (by simp only [St.put, List.set_cons_succ, List.set_cons_zero]; rfl) ?_
  refine TL.nil ?_
  show TC _ _ _ _ _ _
  refine TC.cond rfl (fun hb => ?_) (fun hb => ?_)
  · refine TC.seq ?_
    -- region 2
    refine TC.region ?_
    refine TL.valE rfl (Val.assign 1 rfl rfl) (by simp only [St.put, List.set_cons_succ, List.set_cons_zero]; rfl) ?_
    refine TL.nil ?_
    show TC _ _ _ _ _ _
    refine TC.ret ?_
    exact ⟨.inr rfl, [_], [_], _, rfl, by decide, rfl, by simp [refV, refC, valC], rfl, resV (by simp at *; intro e; subst e; simp at hb)⟩
  · refine TC.skip ?_
    show TC _ _ _ _ _ _
    refine TC.seq ?_
    refine TC.seq ?_
    have hl : xs.length = ys.length := by simp at hb; omega
    -- region 3
    refine TC.region ?_
    refine TL.valE rfl (Val.move 1 rfl rfl) (by simp only [St.put, List.set_cons_succ, List.set_cons_zero]; rfl) ?_
    refine TL.valE rfl (by first | exact Val.len rfl rfl rfl rfl | exact Val.lenS rfl rfl rfl) (by simp only [St.put, List.set_cons_succ, List.set_cons_zero]; rfl) ?_
    refine TL.valE rfl (Val.move 1 rfl rfl) (by simp only [St.put, List.set_cons_succ, List.set_cons_zero]; rfl) ?_
    refine TL.nil ?_
    show TC _ _ _ _ _ _
    refine TC.block ?_
    refine TC.loop (fun μ st => ∃ k : Nat, (k ≤ xs.length ∧ xs.take k = ys.take k) ∧ μ = xs.length - k ∧ Can st ⟨[L 1 (xs.map dInt), L 1 (ys.map dInt), .one .dead, .one .dead, .one .dead, .one .dead, .one .dead, .one .dead, .one .dead, .one .dead, .one .dead, L 1 (xs.map dInt), I (xs.map dInt).length, I k, .one .dead, .one .dead, .one .dead, .one .dead, .one .dead, .one .dead, .one .dead, .one .dead, .one .dead, .one .dead, .one .dead, .one .dead], []⟩) (xs.length) ?_ fun μ st hI => ?_
    · refine ⟨0, by simp, by simp, ?_⟩
      exact Can.to (by repeat first | exact LessT.nil | refine LessT.drop ?_ | refine LessT.keep ?_ | refine LessT.eq (by simp) ?_) (by repeat first | exact .nil | refine .cons rfl rfl ?_)
    · obtain ⟨k, hyp, rfl, hcan⟩ := hI
      refine TC.can hcan ?_
      clear hcan
      refine TC.seq ?_
      -- region 4
      refine TC.region ?_
      refine TL.valE rfl (Val.lss rfl rfl rfl) (by simp only [St.put, List.set_cons_succ, List.set_cons_zero]; rfl) ?_
      refine TL.nil ?_
      show TC _ _ _ _ _ _
      refine TC.seq ?_
      refine TC.cond rfl (fun hb => ?_) (fun hb => ?_)
      · refine TC.skip ?_
        show TC _ _ _ _ _ _
        refine TC.seq ?_
        refine TC.block ?_
        refine TC.seq ?_
        have hk : k < xs.length := by simpa using hb
        obtain ⟨x, hx⟩ := at_of (xs := xs) (k := k) hk
        obtain ⟨y, hy⟩ := at_of (xs := ys) (k := k) (by omega)
        -- region 5
        refine TC.region ?_
        refine TL.valE rfl (Val.move 1 rfl rfl) (by simp only [St.put, List.set_cons_succ, List.set_cons_zero]; rfl) ?_
        refine TL.valE rfl (Val.assign 1 rfl rfl) (by simp only [St.put, List.set_cons_succ, List.set_cons_zero]; rfl) ?_
        refine TL.nil ?_
        show TC _ _ _ _ _ _
        refine TC.seq ?_
        -- region 6
        refine TC.regionQ rfl (by decide +kernel) ?_
        refine TQ.valE rfl (Val.move 1 rfl rfl) (by simp only [St.put, List.set_cons_succ, List.set_cons_zero]; rfl) ?_
        refine TQ.valE rfl (Val.move 1 rfl rfl) (by simp only [St.put, List.set_cons_succ, List.set_cons_zero]; rfl) ?_
        refine TQ.valE rfl (by exact Val.indexC (d := dInt x) rfl rfl rfl rfl rfl (by omega) (by simp [hx])) (by simp only [St.put, List.set_cons_succ, List.set_cons_zero]; rfl) ?_
        refine TQ.valE rfl (by first | exact Val.load rfl rfl rfl rfl rfl | exact Val.loadC rfl rfl rfl | exact Val.loadAgg rfl rfl rfl rfl rfl rfl | exact Val.loadCAgg rfl rfl rfl rfl (Nat.le_of_ble_eq_true rfl)) (by simp only [St.put, List.set_cons_succ, List.set_cons_zero, valC]; rfl) ?_
        refine TQ.valE rfl (Val.move 1 rfl rfl) (by simp only [St.put, List.set_cons_succ, List.set_cons_zero]; rfl) ?_
        refine TQ.valE rfl (Val.move 1 rfl rfl) (by simp only [St.put, List.set_cons_succ, List.set_cons_zero]; rfl) ?_
        refine TQ.valE rfl (by exact Val.indexC (d := dInt y) rfl rfl rfl rfl rfl (by omega) (by simp [hy])) (by simp only [St.put, List.set_cons_succ, List.set_cons_zero]; rfl) ?_
        refine TQ.valE rfl (by first | exact Val.load rfl rfl rfl rfl rfl | exact Val.loadC rfl rfl rfl | exact Val.loadAgg rfl rfl rfl rfl rfl rfl | exact Val.loadCAgg rfl rfl rfl rfl (Nat.le_of_ble_eq_true rfl)) (by simp only [St.put, List.set_cons_succ, List.set_cons_zero, valC]; rfl) ?_
        refine TQ.valE rfl (Val.neq rfl rfl rfl) (by simp only [St.put, List.set_cons_succ, List.set_cons_zero]; rfl) ?_
        refine TQ.nil ?_
        show TC _ _ _ _ _ _
        refine TC.cond rfl (fun hb => ?_) (fun hb => ?_)
        · refine TC.seq ?_
          -- region 7
          refine TC.region ?_
          refine TL.valE rfl (Val.assign 1 rfl rfl) (by simp only [St.put, List.set_cons_succ, List.set_cons_zero]; rfl) ?_
          refine TL.nil ?_
          show TC _ _ _ _ _ _
          refine TC.ret ?_
          exact ⟨.inr rfl, [_], [_], _, rfl, by decide, rfl, by simp [refV, refC, valC], rfl, resV (by simp at *; exact eq_off hx hy hb)⟩
        · refine TC.skip ?_
          show TC _ _ _ _ _ _
          -- region 8
          refine TC.region ?_
          refine TL.valE rfl (Val.add rfl rfl rfl (by first | omega | (simp only [List.length_map]; omega)) (by first | omega | (simp only [List.length_map]; omega))) (by simp only [St.put, List.set_cons_succ, List.set_cons_zero]; rfl) ?_
          refine TL.valE rfl (Val.move 1 rfl rfl) (by simp only [St.put, List.set_cons_succ, List.set_cons_zero]; rfl) ?_
          refine TL.nil ?_
          refine Seq.normal ⟨_, ?_, k + 1, ?_, rfl, ?_⟩
          · omega
          · exact ⟨by omega, eq_step hyp.2 hx (by simp at hb; rw [hb]; exact hy)⟩
          · exact Can.to (by repeat first | exact LessT.nil | refine LessT.drop ?_ | refine LessT.keep ?_ | refine LessT.eq (by simp) ?_) (by repeat first | exact .nil | refine .cons rfl rfl ?_)
      · refine TC.exit ?_
        -- exit 0
        show TC _ _ _ _ _ _
        refine TC.seq ?_
        -- region 9
        refine TC.region ?_
        refine TL.valE rfl (Val.assign 1 rfl rfl) (by simp only [St.put, List.set_cons_succ, List.set_cons_zero]; rfl) ?_
        refine TL.nil ?_
        show TC _ _ _ _ _ _
        refine TC.ret ?_
        exact ⟨.inr rfl, [_], [_], _, rfl, by decide, rfl, by simp [refV, refC, valC], rfl, resV (by simp at *; exact eq_all hl hyp.2 hb)⟩

-- slices.Equal[[]loop.example/g00975/impl.Ins,loop.example/g00975/impl.Ins]: params ['[]impl.Ins', '[]impl.Ins'] results ['bool'] ('arr', [('app', 'Go.ResultVar.tmp', ['4'])])
theorem slices_Equal_Ins_f (xs ys : List VIns) : Fun Try.prog 66 [L 2 (xs.map dIns), L 2 (ys.map dIns)] (RV (.bool (decide (xs = ys)))) := by
  refine Fun.of Try.func66 rfl (by simp [Try.ntmps66]) fun w g0 => ?_
  simp only [Try.ntmps66, List.length_cons, List.length_nil, Nat.reduceAdd, Nat.reduceSub, List.replicate, List.cons_append, List.nil_append]
  refine TC.most (i := 0) rfl rfl fun hm0 => ?_
  simp only [most, List.length_map] at hm0
  refine TC.seq ?_
  -- region 0
  refine TC.region ?_
  refine TL.valE rfl (Val.assign 1 rfl rfl) (by simp only [St.put, List.set_cons_succ, List.set_cons_zero]; rfl) ?_
  refine TL.nil ?_
  show TC _ _ _ _ _ _
  refine TC.seq ?_
  refine TC.seq ?_
  -- region 1
  refine TC.region ?_
  refine TL.valE rfl (Val.move 1 rfl rfl) (by simp only [St.put, List.set_cons_succ, List.set_cons_zero]; rfl) ?_
  refine TL.valE rfl (by first | exact Val.len rfl rfl rfl rfl | exact Val.lenS rfl rfl rfl) (by simp only [St.put, List.set_cons_succ, List.set_cons_zero]; rfl) ?_
  refine TL.valE rfl (Val.move 1 rfl rfl) (by simp only [St.put, List.set_cons_succ, List.set_cons_zero]; rfl) ?_
  refine TL.valE rfl (by first | exact Val.len rfl rfl rfl rfl | exact Val.lenS rfl rfl rfl) (by simp only [St.put, List.set_cons_succ, List.set_cons_zero]; rfl) ?_
  refine TL.valE rfl (Val.neq rfl rfl rfl) (by simp only [St.put, List.set_cons_succ, List.set_cons_zero]; rfl) ?_
  refine TL.nil ?_
  show TC _ _ _ _ _ _
  refine TC.cond rfl (fun hb => ?_) (fun hb => ?_)
  · refine TC.seq ?_
    -- region 2
    refine TC.region ?_
    refine TL.valE rfl (Val.assign 1 rfl rfl) (by simp only [St.put, List.set_cons_succ, List.set_cons_zero]; rfl) ?_
    refine TL.nil ?_
    show TC _ _ _ _ _ _
    refine TC.ret ?_
    exact ⟨.inr rfl, [_], [_], _, rfl, by decide, rfl, by simp [refV, refC, valC], rfl, resV (by simp at *; intro e; subst e; simp at hb)⟩
  · refine TC.skip ?_
    show TC _ _ _ _ _ _
    refine TC.seq ?_
    refine TC.seq ?_
    have hl : xs.length = ys.length := by simp at hb; omega
    -- region 3
    refine TC.region ?_
    refine TL.valE rfl (Val.move 1 rfl rfl) (by simp only [St.put, List.set_cons_succ, List.set_cons_zero]; rfl) ?_
    refine TL.valE rfl (by first | exact Val.len rfl rfl rfl rfl | exact Val.lenS rfl rfl rfl) (by simp only [St.put, List.set_cons_succ, List.set_cons_zero]; rfl) ?_
    refine TL.valE rfl (Val.move 1 rfl rfl) (by simp only [St.put, List.set_cons_succ, List.set_cons_zero]; rfl) ?_
    refine TL.nil ?_
    show TC _ _ _ _ _ _
    refine TC.block ?_
    refine TC.loop (fun μ st => ∃ k : Nat, (k ≤ xs.length ∧ xs.take k = ys.take k) ∧ μ = xs.length - k ∧ Can st ⟨[L 2 (xs.map dIns), L 2 (ys.map dIns), .one .dead, .one .dead, .one .dead, .one .dead, .one .dead, .one .dead, .one .dead, .one .dead, .one .dead, L 2 (xs.map dIns), I (xs.map dIns).length, I k, .one .dead, .one .dead, .one .dead, .one .dead, .one .dead, .one .dead, .one .dead, .one .dead, .one .dead, .one .dead, .one .dead, .one .dead], []⟩) (xs.length) ?_ fun μ st hI => ?_
    · refine ⟨0, by simp, by simp, ?_⟩
      exact Can.to (by repeat first | exact LessT.nil | refine LessT.drop ?_ | refine LessT.keep ?_ | refine LessT.eq (by simp) ?_) (by repeat first | exact .nil | refine .cons rfl rfl ?_)
    · obtain ⟨k, hyp, rfl, hcan⟩ := hI
      refine TC.can hcan ?_
      clear hcan
      refine TC.seq ?_
      -- region 4
      refine TC.region ?_
      refine TL.valE rfl (Val.lss rfl rfl rfl) (by simp only [St.put, List.set_cons_succ, List.set_cons_zero]; rfl) ?_
      refine TL.nil ?_
      show TC _ _ _ _ _ _
      refine TC.seq ?_
      refine TC.cond rfl (fun hb => ?_) (fun hb => ?_)
      · refine TC.skip ?_
        show TC _ _ _ _ _ _
        refine TC.seq ?_
        refine TC.block ?_
        refine TC.seq ?_
        have hk : k < xs.length := by simpa using hb
        obtain ⟨x, hx⟩ := at_of (xs := xs) (k := k) hk
        obtain ⟨y, hy⟩ := at_of (xs := ys) (k := k) (by omega)
        -- region 5
        refine TC.region ?_
        refine TL.valE rfl (Val.move 1 rfl rfl) (by simp only [St.put, List.set_cons_succ, List.set_cons_zero]; rfl) ?_
        refine TL.valE rfl (Val.assign 1 rfl rfl) (by simp only [St.put, List.set_cons_succ, List.set_cons_zero]; rfl) ?_
        refine TL.nil ?_
        show TC _ _ _ _ _ _
        refine TC.seq ?_
        -- region 6
        refine TC.regionQ rfl (by decide +kernel) ?_
        refine TQ.valE rfl (Val.move 1 rfl rfl) (by simp only [St.put, List.set_cons_succ, List.set_cons_zero]; rfl) ?_
        refine TQ.valE rfl (Val.move 1 rfl rfl) (by simp only [St.put, List.set_cons_succ, List.set_cons_zero]; rfl) ?_
        refine TQ.valE rfl (by exact Val.indexC (d := dIns x) rfl rfl rfl rfl rfl (by omega) (by simp [hx])) (by simp only [St.put, List.set_cons_succ, List.set_cons_zero]; rfl) ?_
        refine TQ.valE rfl (by first | exact Val.load rfl rfl rfl rfl rfl | exact Val.loadC rfl rfl rfl | exact Val.loadAgg rfl rfl rfl rfl rfl rfl | exact Val.loadCAgg rfl rfl rfl rfl (Nat.le_of_ble_eq_true rfl)) (by simp only [St.put, List.set_cons_succ, List.set_cons_zero, valC]; rfl) ?_
        refine TQ.valE rfl (Val.move 1 rfl rfl) (by simp only [St.put, List.set_cons_succ, List.set_cons_zero]; rfl) ?_
        refine TQ.valE rfl (Val.move 1 rfl rfl) (by simp only [St.put, List.set_cons_succ, List.set_cons_zero]; rfl) ?_
        refine TQ.valE rfl (by exact Val.indexC (d := dIns y) rfl rfl rfl rfl rfl (by omega) (by simp [hy])) (by simp only [St.put, List.set_cons_succ, List.set_cons_zero]; rfl) ?_
        refine TQ.valE rfl (by first | exact Val.load rfl rfl rfl rfl rfl | exact Val.loadC rfl rfl rfl | exact Val.loadAgg rfl rfl rfl rfl rfl rfl | exact Val.loadCAgg rfl rfl rfl rfl (Nat.le_of_ble_eq_true rfl)) (by simp only [St.put, List.set_cons_succ, List.set_cons_zero, valC]; rfl) ?_
        refine TQ.valE rfl (Val.neqA rfl rfl rfl rfl rfl rfl (by kernel_rfl) (by kernel_rfl) rfl) (by simp only [St.put, List.set_cons_succ, List.set_cons_zero]; rfl) ?_
        refine TQ.nil ?_
        show TC _ _ _ _ _ _
        refine TC.cond rfl (fun hb => ?_) (fun hb => ?_)
        · refine TC.seq ?_
          -- region 7
          refine TC.region ?_
          refine TL.valE rfl (Val.assign 1 rfl rfl) (by simp only [St.put, List.set_cons_succ, List.set_cons_zero]; rfl) ?_
          refine TL.nil ?_
          show TC _ _ _ _ _ _
          refine TC.ret ?_
          exact ⟨.inr rfl, [_], [_], _, rfl, by decide, rfl, by simp [refV, refC, valC], rfl, resV (by simp at *; exact eq_off hx hy (by rintro rfl; cases x; simp [eqVs, eqV] at hb))⟩
        · refine TC.skip ?_
          show TC _ _ _ _ _ _
          -- region 8
          refine TC.region ?_
          refine TL.valE rfl (Val.add rfl rfl rfl (by first | omega | (simp only [List.length_map]; omega)) (by first | omega | (simp only [List.length_map]; omega))) (by simp only [St.put, List.set_cons_succ, List.set_cons_zero]; rfl) ?_
          refine TL.valE rfl (Val.move 1 rfl rfl) (by simp only [St.put, List.set_cons_succ, List.set_cons_zero]; rfl) ?_
          refine TL.nil ?_
          refine Seq.normal ⟨_, ?_, k + 1, ?_, rfl, ?_⟩
          · omega
          · exact ⟨by omega, eq_step hyp.2 hx (by have e : x = y := (by cases x; cases y; simp_all [eqVs, eqV]); rw [e]; exact hy)⟩
          · exact Can.to (by repeat first | exact LessT.nil | refine LessT.drop ?_ | refine LessT.keep ?_ | refine LessT.eq (by simp) ?_) (by repeat first | exact .nil | refine .cons rfl rfl ?_)
      · refine TC.exit ?_
        -- exit 0
        show TC _ _ _ _ _ _
        refine TC.seq ?_
        -- region 9
        refine TC.region ?_
        refine TL.valE rfl (Val.assign 1 rfl rfl) (by simp only [St.put, List.set_cons_succ, List.set_cons_zero]; rfl) ?_
        refine TL.nil ?_
        show TC _ _ _ _ _ _
        refine TC.ret ?_
        exact ⟨.inr rfl, [_], [_], _, rfl, by decide, rfl, by simp [refV, refC, valC], rfl, resV (by simp at *; exact eq_all hl hyp.2 hb)⟩

-- slices.Equal[[]loop.example/g00975/impl.Slot,loop.example/g00975/impl.Slot]: params ['[]impl.Slot', '[]impl.Slot'] results ['bool'] ('arr', [('app', 'Go.ResultVar.tmp', ['4'])])
theorem slices_Equal_Slot_f (xs ys : List VSlot) : Fun Try.prog 67 [L 2 (xs.map dSlot), L 2 (ys.map dSlot)] (RV (.bool (decide (xs = ys)))) := by
  refine Fun.of Try.func67 rfl (by simp [Try.ntmps67]) fun w g0 => ?_
  simp only [Try.ntmps67, List.length_cons, List.length_nil, Nat.reduceAdd, Nat.reduceSub, List.replicate, List.cons_append, List.nil_append]
  refine TC.most (i := 0) rfl rfl fun hm0 => ?_
  simp only [most, List.length_map] at hm0
  refine TC.seq ?_
  -- region 0
  refine TC.region ?_
  refine TL.valE rfl (Val.assign 1 rfl rfl) (by simp only [St.put, List.set_cons_succ, List.set_cons_zero]; rfl) ?_
  refine TL.nil ?_
  show TC _ _ _ _ _ _
  refine TC.seq ?_
  refine TC.seq ?_
  -- region 1
  refine TC.region ?_
  refine TL.valE rfl (Val.move 1 rfl rfl) (by simp only [St.put, List.set_cons_succ, List.set_cons_zero]; rfl) ?_
  refine TL.valE rfl (by first | exact Val.len rfl rfl rfl rfl | exact Val.lenS rfl rfl rfl) (by simp only [St.put, List.set_cons_succ, List.set_cons_zero]; rfl) ?_
  refine TL.valE rfl (Val.move 1 rfl rfl) (by simp only [St.put, List.set_cons_succ, List.set_cons_zero]; rfl) ?_
  refine TL.valE rfl (by first | exact Val.len rfl rfl rfl rfl | exact Val.lenS rfl rfl rfl) (by simp only [St.put, List.set_cons_succ, List.set_cons_zero]; rfl) ?_
  refine TL.valE rfl (Val.neq rfl rfl rfl) (by simp only [St.put, List.set_cons_succ, List.set_cons_zero]; rfl) ?_
  refine TL.nil ?_
  show TC _ _ _ _ _ _
  refine TC.cond rfl (fun hb => ?_) (fun hb => ?_)
  · refine TC.seq ?_
    -- region 2
    refine TC.region ?_
    refine TL.valE rfl (Val.assign 1 rfl rfl) (by simp only [St.put, List.set_cons_succ, List.set_cons_zero]; rfl) ?_
    refine TL.nil ?_
    show TC _ _ _ _ _ _
    refine TC.ret ?_
    exact ⟨.inr rfl, [_], [_], _, rfl, by decide, rfl, by simp [refV, refC, valC], rfl, resV (by simp at *; intro e; subst e; simp at hb)⟩
  · refine TC.skip ?_
    show TC _ _ _ _ _ _
    refine TC.seq ?_
    refine TC.seq ?_
    have hl : xs.length = ys.length := by simp at hb; omega
    -- region 3
    refine TC.region ?_
    refine TL.valE rfl (Val.move 1 rfl rfl) (by simp only [St.put, List.set_cons_succ, List.set_cons_zero]; rfl) ?_
    refine TL.valE rfl (by first | exact Val.len rfl rfl rfl rfl | exact Val.lenS rfl rfl rfl) (by simp only [St.put, List.set_cons_succ, List.set_cons_zero]; rfl) ?_
    refine TL.valE rfl (Val.move 1 rfl rfl) (by simp only [St.put, List.set_cons_succ, List.set_cons_zero]; rfl) ?_
    refine TL.nil ?_
    show TC _ _ _ _ _ _
    refine TC.block ?_
    refine TC.loop (fun μ st => ∃ k : Nat, (k ≤ xs.length ∧ xs.take k = ys.take k) ∧ μ = xs.length - k ∧ Can st ⟨[L 2 (xs.map dSlot), L 2 (ys.map dSlot), .one .dead, .one .dead, .one .dead, .one .dead, .one .dead, .one .dead, .one .dead, .one .dead, .one .dead, L 2 (xs.map dSlot), I (xs.map dSlot).length, I k, .one .dead, .one .dead, .one .dead, .one .dead, .one .dead, .one .dead, .one .dead, .one .dead, .one .dead, .one .dead, .one .dead, .one .dead], []⟩) (xs.length) ?_ fun μ st hI => ?_
    · refine ⟨0, by simp, by simp, ?_⟩
      exact Can.to (by repeat first | exact LessT.nil | refine LessT.drop ?_ | refine LessT.keep ?_ | refine LessT.eq (by simp) ?_) (by repeat first | exact .nil | refine .cons rfl rfl ?_)
    · obtain ⟨k, hyp, rfl, hcan⟩ := hI
      refine TC.can hcan ?_
      clear hcan
      refine TC.seq ?_
      -- region 4
      refine TC.region ?_
      refine TL.valE rfl (Val.lss rfl rfl rfl) (by simp only [St.put, List.set_cons_succ, List.set_cons_zero]; rfl) ?_
      refine TL.nil ?_
      show TC _ _ _ _ _ _
      refine TC.seq ?_
      refine TC.cond rfl (fun hb => ?_) (fun hb => ?_)
      · refine TC.skip ?_
        show TC _ _ _ _ _ _
        refine TC.seq ?_
        refine TC.block ?_
        refine TC.seq ?_
        have hk : k < xs.length := by simpa using hb
        obtain ⟨x, hx⟩ := at_of (xs := xs) (k := k) hk
        obtain ⟨y, hy⟩ := at_of (xs := ys) (k := k) (by omega)
        -- region 5
        refine TC.region ?_
        refine TL.valE rfl (Val.move 1 rfl rfl) (by simp only [St.put, List.set_cons_succ, List.set_cons_zero]; rfl) ?_
        refine TL.valE rfl (Val.assign 1 rfl rfl) (by simp only [St.put, List.set_cons_succ, List.set_cons_zero]; rfl) ?_
        refine TL.nil ?_
        show TC _ _ _ _ _ _
        refine TC.seq ?_
        -- region 6
        refine TC.regionQ rfl (by decide +kernel) ?_
        refine TQ.valE rfl (Val.move 1 rfl rfl) (by simp only [St.put, List.set_cons_succ, List.set_cons_zero]; rfl) ?_
        refine TQ.valE rfl (Val.move 1 rfl rfl) (by simp only [St.put, List.set_cons_succ, List.set_cons_zero]; rfl) ?_
        refine TQ.valE rfl (by exact Val.indexC (d := dSlot x) rfl rfl rfl rfl rfl (by omega) (by simp [hx])) (by simp only [St.put, List.set_cons_succ, List.set_cons_zero]; rfl) ?_
        refine TQ.valE rfl (by first | exact Val.load rfl rfl rfl rfl rfl | exact Val.loadC rfl rfl rfl | exact Val.loadAgg rfl rfl rfl rfl rfl rfl | exact Val.loadCAgg rfl rfl rfl rfl (Nat.le_of_ble_eq_true rfl)) (by simp only [St.put, List.set_cons_succ, List.set_cons_zero, valC]; rfl) ?_
        refine TQ.valE rfl (Val.move 1 rfl rfl) (by simp only [St.put, List.set_cons_succ, List.set_cons_zero]; rfl) ?_
        refine TQ.valE rfl (Val.move 1 rfl rfl) (by simp only [St.put, List.set_cons_succ, List.set_cons_zero]; rfl) ?_
        refine TQ.valE rfl (by exact Val.indexC (d := dSlot y) rfl rfl rfl rfl rfl (by omega) (by simp [hy])) (by simp only [St.put, List.set_cons_succ, List.set_cons_zero]; rfl) ?_
        refine TQ.valE rfl (by first | exact Val.load rfl rfl rfl rfl rfl | exact Val.loadC rfl rfl rfl | exact Val.loadAgg rfl rfl rfl rfl rfl rfl | exact Val.loadCAgg rfl rfl rfl rfl (Nat.le_of_ble_eq_true rfl)) (by simp only [St.put, List.set_cons_succ, List.set_cons_zero, valC]; rfl) ?_
        refine TQ.valE rfl (Val.neqA rfl rfl rfl rfl rfl rfl (by kernel_rfl) (by kernel_rfl) rfl) (by simp only [St.put, List.set_cons_succ, List.set_cons_zero]; rfl) ?_
        refine TQ.nil ?_
        show TC _ _ _ _ _ _
        refine TC.cond rfl (fun hb => ?_) (fun hb => ?_)
        · refine TC.seq ?_
          -- region 7
          refine TC.region ?_
          refine TL.valE rfl (Val.assign 1 rfl rfl) (by simp only [St.put, List.set_cons_succ, List.set_cons_zero]; rfl) ?_
          refine TL.nil ?_
          show TC _ _ _ _ _ _
          refine TC.ret ?_
          exact ⟨.inr rfl, [_], [_], _, rfl, by decide, rfl, by simp [refV, refC, valC], rfl, resV (by simp at *; exact eq_off hx hy (by rintro rfl; cases x; simp [eqVs, eqV] at hb))⟩
        · refine TC.skip ?_
          show TC _ _ _ _ _ _
          -- region 8
          refine TC.region ?_
          refine TL.valE rfl (Val.add rfl rfl rfl (by first | omega | (simp only [List.length_map]; omega)) (by first | omega | (simp only [List.length_map]; omega))) (by simp only [St.put, List.set_cons_succ, List.set_cons_zero]; rfl) ?_
          refine TL.valE rfl (Val.move 1 rfl rfl) (by simp only [St.put, List.set_cons_succ, List.set_cons_zero]; rfl) ?_
          refine TL.nil ?_
          refine Seq.normal ⟨_, ?_, k + 1, ?_, rfl, ?_⟩
          · omega
          · exact ⟨by omega, eq_step hyp.2 hx (by have e : x = y := (by cases x; cases y; simp_all [eqVs, eqV]); rw [e]; exact hy)⟩
          · exact Can.to (by repeat first | exact LessT.nil | refine LessT.drop ?_ | refine LessT.keep ?_ | refine LessT.eq (by simp) ?_) (by repeat first | exact .nil | refine .cons rfl rfl ?_)
      · refine TC.exit ?_
        -- exit 0
        show TC _ _ _ _ _ _
        refine TC.seq ?_
        -- region 9
        refine TC.region ?_
        refine TL.valE rfl (Val.assign 1 rfl rfl) (by simp only [St.put, List.set_cons_succ, List.set_cons_zero]; rfl) ?_
        refine TL.nil ?_
        show TC _ _ _ _ _ _
        refine TC.ret ?_
        exact ⟨.inr rfl, [_], [_], _, rfl, by decide, rfl, by simp [refV, refC, valC], rfl, resV (by simp at *; exact eq_all hl hyp.2 hb)⟩

-- loop.example/g00975/impl.SameProg: params ['[]impl.Ins', '[]impl.Ins'] results ['bool'] ('arr', [('app', 'Go.ResultVar.tmp', ['4'])])
theorem impl_SameProg_f (xs ys : List VIns) : Fun Try.prog 48 [L 2 (xs.map dIns), L 2 (ys.map dIns)] (RV (.bool (decide (xs = ys)))) := by
  refine Fun.of Try.func48 rfl (by simp [Try.ntmps48]) fun w g0 => ?_
  simp only [Try.ntmps48, List.length_cons, List.length_nil, Nat.reduceAdd, Nat.reduceSub, List.replicate, List.cons_append, List.nil_append]
  refine TC.seq ?_
  -- region 0
  refine TC.region ?_
  refine TL.valE rfl (Val.assign 1 rfl rfl) (by simp only [St.put, List.set_cons_succ, List.set_cons_zero]; rfl) ?_
  refine TL.nil ?_
  show TC _ _ _ _ _ _
  refine TC.seq ?_
  -- region 1
  refine TC.region ?_
  refine TL.valE rfl (Val.move 1 rfl rfl) (by simp only [St.put, List.set_cons_succ, List.set_cons_zero]; rfl) ?_
  refine TL.valE rfl (Val.move 1 rfl rfl) (by simp only [St.put, List.set_cons_succ, List.set_cons_zero]; rfl) ?_
  refine TL.callF (yes_none rfl) rfl rfl rfl rfl rfl rfl (slices_Equal_Ins_f xs ys) (by repeat first | exact .nil | refine Snaps.cons (.ro _) ?_ | refine Snaps.cons (.aggRo rfl) ?_ | refine Snaps.cons (.cptr _) ?_ | refine Snaps.cons (.fn _) ?_ | refine Snaps.cons (.ownRef rfl (by first | assumption | exact w_IntS _ | exact w_IntSS _ | exact w_InsS _ | exact w_SlotS _ | exact w_GuestS _ | exact w_BareS _)) ?_ | refine Snaps.cons (.aggR (by repeat first | exact .nil | refine SnapCs.cons (.ro _) ?_ | refine SnapCs.cons (.ref rfl (by first | assumption | exact w_IntS _ | exact w_IntSS _ | exact w_InsS _ | exact w_SlotS _ | exact w_GuestS _ | exact w_BareS _)) ?_)) ?_) rfl (by simp only [St.put, List.set_cons_succ, List.set_cons_zero]; rfl) ?_
  refine TL.valE rfl (Val.assign 1 rfl rfl) (by simp only [St.put, List.set_cons_succ, List.set_cons_zero]; rfl) ?_
  refine TL.nil ?_
  show TC _ _ _ _ _ _
  refine TC.ret ?_
  exact ⟨.inr rfl, [_], [_], _, rfl, by decide, rfl, by simp [refV, refC, valC], rfl, rfl⟩

-- loop.example/g00975/impl.SameTable: params ['[]impl.Slot', '[]impl.Slot'] results ['bool'] ('arr', [('app', 'Go.ResultVar.tmp', ['4'])])
theorem impl_SameTable_f (xs ys : List VSlot) : Fun Try.prog 49 [L 2 (xs.map dSlot), L 2 (ys.map dSlot)] (RV (.bool (decide (xs = ys)))) := by
  refine Fun.of Try.func49 rfl (by simp [Try.ntmps49]) fun w g0 => ?_
  simp only [Try.ntmps49, List.length_cons, List.length_nil, Nat.reduceAdd, Nat.reduceSub, List.replicate, List.cons_append, List.nil_append]
  refine TC.seq ?_
  -- region 0
  refine TC.region ?_
  refine TL.valE rfl (Val.assign 1 rfl rfl) (by simp only [St.put, List.set_cons_succ, List.set_cons_zero]; rfl) ?_
  refine TL.nil ?_
  show TC _ _ _ _ _ _
  refine TC.seq ?_
  -- region 1
  refine TC.region ?_
  refine TL.valE rfl (Val.move 1 rfl rfl) (by simp only [St.put, List.set_cons_succ, List.set_cons_zero]; rfl) ?_
  refine TL.valE rfl (Val.move 1 rfl rfl) (by simp only [St.put, List.set_cons_succ, List.set_cons_zero]; rfl) ?_
  refine TL.callF (yes_none rfl) rfl rfl rfl rfl rfl rfl (slices_Equal_Slot_f xs ys) (by repeat first | exact .nil | refine Snaps.cons (.ro _) ?_ | refine Snaps.cons (.aggRo rfl) ?_ | refine Snaps.cons (.cptr _) ?_ | refine Snaps.cons (.fn _) ?_ | refine Snaps.cons (.ownRef rfl (by first | assumption | exact w_IntS _ | exact w_IntSS _ | exact w_InsS _ | exact w_SlotS _ | exact w_GuestS _ | exact w_BareS _)) ?_ | refine Snaps.cons (.aggR (by repeat first | exact .nil | refine SnapCs.cons (.ro _) ?_ | refine SnapCs.cons (.ref rfl (by first | assumption | exact w_IntS _ | exact w_IntSS _ | exact w_InsS _ | exact w_SlotS _ | exact w_GuestS _ | exact w_BareS _)) ?_)) ?_) rfl (by simp only [St.put, List.set_cons_succ, List.set_cons_zero]; rfl) ?_
  refine TL.valE rfl (Val.assign 1 rfl rfl) (by simp only [St.put, List.set_cons_succ, List.set_cons_zero]; rfl) ?_
  refine TL.nil ?_
  show TC _ _ _ _ _ _
  refine TC.ret ?_
  exact ⟨.inr rfl, [_], [_], _, rfl, by decide, rfl, by simp [refV, refC, valC], rfl, rfl⟩

-- loop.example/g00975/impl.SameMem$1: params ['[]int', '[]int'] results ['bool'] ('arr', [('app', 'Go.ResultVar.tmp', ['4'])])
theorem impl_SameMem_1_f (xs ys : List Int) : Fun Try.prog 47 [L 1 (xs.map dInt), L 1 (ys.map dInt)] (RV (.bool (decide (xs = ys)))) := by
  refine Fun.of Try.func47 rfl (by simp [Try.ntmps47]) fun w g0 => ?_
  simp only [Try.ntmps47, List.length_cons, List.length_nil, Nat.reduceAdd, Nat.reduceSub, List.replicate, List.cons_append, List.nil_append]
  refine TC.seq ?_
  -- region 0
  refine TC.region ?_
  refine TL.valE rfl (Val.assign 1 rfl rfl) (by simp only [St.put, List.set_cons_succ, List.set_cons_zero]; rfl) ?_
  refine TL.nil ?_
  show TC _ _ _ _ _ _
  refine TC.seq ?_
  -- region 1
  refine TC.region ?_
  refine TL.valE rfl (Val.move 1 rfl rfl) (by simp only [St.put, List.set_cons_succ, List.set_cons_zero]; rfl) ?_
  refine TL.valE rfl (Val.move 1 rfl rfl) (by simp only [St.put, List.set_cons_succ, List.set_cons_zero]; rfl) ?_
  refine TL.callF (yes_none rfl) rfl rfl rfl rfl rfl rfl (slices_Equal_Int_f xs ys) (by repeat first | exact .nil | refine Snaps.cons (.ro _) ?_ | refine Snaps.cons (.aggRo rfl) ?_ | refine Snaps.cons (.cptr _) ?_ | refine Snaps.cons (.fn _) ?_ | refine Snaps.cons (.ownRef rfl (by first | assumption | exact w_IntS _ | exact w_IntSS _ | exact w_InsS _ | exact w_SlotS _ | exact w_GuestS _ | exact w_BareS _)) ?_ | refine Snaps.cons (.aggR (by repeat first | exact .nil | refine SnapCs.cons (.ro _) ?_ | refine SnapCs.cons (.ref rfl (by first | assumption | exact w_IntS _ | exact w_IntSS _ | exact w_InsS _ | exact w_SlotS _ | exact w_GuestS _ | exact w_BareS _)) ?_)) ?_) rfl (by simp only [St.put, List.set_cons_succ, List.set_cons_zero]; rfl) ?_
  refine TL.valE rfl (Val.assign 1 rfl rfl) (by simp only [St.put, List.set_cons_succ, List.set_cons_zero]; rfl) ?_
  refine TL.nil ?_
  show TC _ _ _ _ _ _
  refine TC.ret ?_
  exact ⟨.inr rfl, [_], [_], _, rfl, by decide, rfl, by simp [refV, refC, valC], rfl, rfl⟩

-- slices.EqualFunc[[][]int,[][]int,[]int,[]int]: params ['[][]int', '[][]int', 'func([]int, []int) bool'] results ['bool'] ('arr', [('app', 'Go.ResultVar.tmp', ['6'])])
theorem slices_EqualFunc_IntS_f (xs ys : List (List Int)) : Fun Try.prog 46 [L 1 (xs.map dIntS), L 1 (ys.map dIntS), .fn 47 []] (RV (.bool (decide (xs = ys)))) := by
  refine Fun.of Try.func46 rfl (by simp [Try.ntmps46]) fun w g0 => ?_
  simp only [Try.ntmps46, List.length_cons, List.length_nil, Nat.reduceAdd, Nat.reduceSub, List.replicate, List.cons_append, List.nil_append]
  refine TC.most (i := 0) rfl rfl fun hm0 => ?_
  simp only [most, List.length_map] at hm0
  refine TC.seq ?_
  -- region 0
  refine TC.region ?_
  refine TL.valE rfl (Val.assign 1 rfl rfl) (by simp only [St.put, List.set_cons_succ, List.set_cons_zero]; rfl) ?_
  refine TL.nil ?_
  show TC _ _ _ _ _ _
  refine TC.seq ?_
  refine TC.seq ?_
  -- region 1
  refine TC.region ?_
  refine TL.valE rfl (Val.move 1 rfl rfl) (by simp only [St.put, List.set_cons_succ, List.set_cons_zero]; rfl) ?_
  refine TL.valE rfl (by first | exact Val.len rfl rfl rfl rfl | exact Val.lenS rfl rfl rfl) (by simp only [St.put, List.set_cons_succ, List.set_cons_zero]; rfl) ?_
  refine TL.valE rfl (Val.move 1 rfl rfl) (by simp only [St.put, List.set_cons_succ, List.set_cons_zero]; rfl) ?_
  refine TL.valE rfl (by first | exact Val.len rfl rfl rfl rfl | exact Val.lenS rfl rfl rfl) (by simp only [St.put, List.set_cons_succ, List.set_cons_zero]; rfl) ?_
  refine TL.valE rfl (Val.neq rfl rfl rfl) (by simp only [St.put, List.set_cons_succ, List.set_cons_zero]; rfl) ?_
  refine TL.nil ?_
  show TC _ _ _ _ _ _
  refine TC.cond rfl (fun hb => ?_) (fun hb => ?_)
  · refine TC.seq ?_
    -- region 2
    refine TC.region ?_
    refine TL.valE rfl (Val.assign 1 rfl rfl) (by simp only [St.put, List.set_cons_succ, List.set_cons_zero]; rfl) ?_
    refine TL.nil ?_
    show TC _ _ _ _ _ _
    refine TC.ret ?_
    exact ⟨.inr rfl, [_], [_], _, rfl, by decide, rfl, by simp [refV, refC, valC], rfl, resV (by simp at *; intro e; subst e; simp at hb)⟩
  · refine TC.skip ?_
    show TC _ _ _ _ _ _
    refine TC.seq ?_
    refine TC.seq ?_
    have hl : xs.length = ys.length := by simp at hb; omega
    -- region 3
    refine TC.region ?_
    refine TL.valE rfl (Val.move 1 rfl rfl) (by simp only [St.put, List.set_cons_succ, List.set_cons_zero]; rfl) ?_
    refine TL.valE rfl (by first | exact Val.len rfl rfl rfl rfl | exact Val.lenS rfl rfl rfl) (by simp only [St.put, List.set_cons_succ, List.set_cons_zero]; rfl) ?_
    refine TL.valE rfl (Val.move 1 rfl rfl) (by simp only [St.put, List.set_cons_succ, List.set_cons_zero]; rfl) ?_
    refine TL.nil ?_
    show TC _ _ _ _ _ _
    refine TC.block ?_
    refine TC.loop (fun μ st => ∃ k : Nat, (k ≤ xs.length ∧ xs.take k = ys.take k) ∧ μ = xs.length - k ∧ Can st ⟨[L 1 (xs.map dIntS), L 1 (ys.map dIntS), .fn 47 [], .one .dead, .one .dead, .one .dead, .one .dead, .one .dead, .one .dead, .one .dead, .one .dead, .one .dead, .one .dead, .one .dead, .one .dead, L 1 (xs.map dIntS), I (xs.map dIntS).length, I k, .one .dead, .one .dead, .one .dead, .one .dead, .one .dead, .one .dead, .one .dead, .one .dead, .one .dead, .one .dead, .one .dead, .one .dead, .one .dead, .one .dead], []⟩) (xs.length) ?_ fun μ st hI => ?_
    · refine ⟨0, by simp, by simp, ?_⟩
      exact Can.to (by repeat first | exact LessT.nil | refine LessT.drop ?_ | refine LessT.keep ?_ | refine LessT.eq (by simp) ?_) (by repeat first | exact .nil | refine .cons rfl rfl ?_)
    · obtain ⟨k, hyp, rfl, hcan⟩ := hI
      refine TC.can hcan ?_
      clear hcan
      refine TC.seq ?_
      -- region 4
      refine TC.region ?_
      refine TL.valE rfl (Val.lss rfl rfl rfl) (by simp only [St.put, List.set_cons_succ, List.set_cons_zero]; rfl) ?_
      refine TL.nil ?_
      show TC _ _ _ _ _ _
      refine TC.seq ?_
      refine TC.cond rfl (fun hb => ?_) (fun hb => ?_)
      · refine TC.skip ?_
        show TC _ _ _ _ _ _
        refine TC.seq ?_
        refine TC.block ?_
        refine TC.seq ?_
        have hk : k < xs.length := by simpa using hb
        obtain ⟨x, hx⟩ := at_of (xs := xs) (k := k) hk
        obtain ⟨y, hy⟩ := at_of (xs := ys) (k := k) (by omega)
        -- region 5
        refine TC.region ?_
        refine TL.valE rfl (Val.move 1 rfl rfl) (by simp only [St.put, List.set_cons_succ, List.set_cons_zero]; rfl) ?_
        refine TL.valE rfl (by exact Val.indexC (d := dIntS x) rfl rfl rfl rfl rfl (by omega) (by simp [hx])) (by simp only [St.put, List.set_cons_succ, List.set_cons_zero]; rfl) ?_
        refine TL.valE rfl (by first | exact Val.load rfl rfl rfl rfl rfl | exact Val.loadC rfl rfl rfl | exact Val.loadAgg rfl rfl rfl rfl rfl rfl | exact Val.loadCAgg rfl rfl rfl rfl (Nat.le_of_ble_eq_true rfl)) (by simp only [St.put, List.set_cons_succ, List.set_cons_zero, valC]; rfl) ?_
        refine TL.valE rfl (Val.assign 1 rfl rfl) (by simp only [St.put, List.set_cons_succ, List.set_cons_zero]; rfl) ?_
        refine TL.valE rfl (Val.assign 1 rfl rfl) (by simp only [St.put, List.set_cons_succ, List.set_cons_zero]; rfl) ?_
        refine TL.nil ?_
        show TC _ _ _ _ _ _
        refine TC.seq ?_
        -- region 6
        refine TC.region ?_
        refine TL.valE rfl (Val.move 1 rfl rfl) (by simp only [St.put, List.set_cons_succ, List.set_cons_zero]; rfl) ?_
        refine TL.valE rfl (Val.move 1 rfl rfl) (by simp only [St.put, List.set_cons_succ, List.set_cons_zero]; rfl) ?_
        refine TL.valE rfl (by exact Val.indexC (d := dIntS y) rfl rfl rfl rfl rfl (by omega) (by simp [hy])) (by simp only [St.put, List.set_cons_succ, List.set_cons_zero]; rfl) ?_
        refine TL.valE rfl (by first | exact Val.load rfl rfl rfl rfl rfl | exact Val.loadC rfl rfl rfl | exact Val.loadAgg rfl rfl rfl rfl rfl rfl | exact Val.loadCAgg rfl rfl rfl rfl (Nat.le_of_ble_eq_true rfl)) (by simp only [St.put, List.set_cons_succ, List.set_cons_zero, valC]; rfl) ?_
        refine TL.valE rfl (Val.assign 1 rfl rfl) (by simp only [St.put, List.set_cons_succ, List.set_cons_zero]; rfl) ?_
        refine TL.nil ?_
        show TC _ _ _ _ _ _
        refine TC.seq ?_
        -- region 7
        refine TC.region ?_
        refine TL.valE rfl (Val.move 1 rfl rfl) (by simp only [St.put, List.set_cons_succ, List.set_cons_zero]; rfl) ?_
        refine TL.valE rfl (Val.move 1 rfl rfl) (by simp only [St.put, List.set_cons_succ, List.set_cons_zero]; rfl) ?_
        refine TL.valE rfl (Val.move 1 rfl rfl) (by simp only [St.put, List.set_cons_succ, List.set_cons_zero]; rfl) ?_
        refine TL.callF (yes_none rfl) rfl rfl rfl rfl rfl rfl (impl_SameMem_1_f x y) (by repeat first | exact .nil | refine Snaps.cons (.ro _) ?_ | refine Snaps.cons (.aggRo rfl) ?_ | refine Snaps.cons (.cptr _) ?_ | refine Snaps.cons (.fn _) ?_ | refine Snaps.cons (.ownRef rfl (by first | assumption | exact w_IntS _ | exact w_IntSS _ | exact w_InsS _ | exact w_SlotS _ | exact w_GuestS _ | exact w_BareS _)) ?_ | refine Snaps.cons (.aggR (by repeat first | exact .nil | refine SnapCs.cons (.ro _) ?_ | refine SnapCs.cons (.ref rfl (by first | assumption | exact w_IntS _ | exact w_IntSS _ | exact w_InsS _ | exact w_SlotS _ | exact w_GuestS _ | exact w_BareS _)) ?_)) ?_) rfl (by simp only [St.put, List.set_cons_succ, List.set_cons_zero]; rfl) ?_
        refine TL.valE rfl (Val.not rfl rfl) (by simp only [St.put, List.set_cons_succ, List.set_cons_zero]; rfl) ?_
        refine TL.nil ?_
        show TC _ _ _ _ _ _
        refine TC.cond rfl (fun hb => ?_) (fun hb => ?_)
        · refine TC.seq ?_
          -- region 8
          refine TC.region ?_
          refine TL.valE rfl (Val.assign 1 rfl rfl) (by simp only [St.put, List.set_cons_succ, List.set_cons_zero]; rfl) ?_
          refine TL.nil ?_
          show TC _ _ _ _ _ _
          refine TC.ret ?_
          exact ⟨.inr rfl, [_], [_], _, rfl, by decide, rfl, by simp [refV, refC, valC], rfl, resV (by simp at *; exact eq_off hx hy hb)⟩
        · refine TC.skip ?_
          show TC _ _ _ _ _ _
          -- region 9
          refine TC.region ?_
          refine TL.valE rfl (Val.add rfl rfl rfl (by first | omega | (simp only [List.length_map]; omega)) (by first | omega | (simp only [List.length_map]; omega))) (by simp only [St.put, List.set_cons_succ, List.set_cons_zero]; rfl) ?_
          refine TL.valE rfl (Val.move 1 rfl rfl) (by simp only [St.put, List.set_cons_succ, List.set_cons_zero]; rfl) ?_
          refine TL.nil ?_
          refine Seq.normal ⟨_, ?_, k + 1, ?_, rfl, ?_⟩
          · omega
          · exact ⟨by omega, eq_step hyp.2 hx (by simp at hb; rw [hb]; exact hy)⟩
          · exact Can.to (by repeat first | exact LessT.nil | refine LessT.drop ?_ | refine LessT.keep ?_ | refine LessT.eq (by simp) ?_) (by repeat first | exact .nil | refine .cons rfl rfl ?_)
      · refine TC.exit ?_
        -- exit 0
        show TC _ _ _ _ _ _
        refine TC.seq ?_
        -- region 10
        refine TC.region ?_
        refine TL.valE rfl (Val.assign 1 rfl rfl) (by simp only [St.put, List.set_cons_succ, List.set_cons_zero]; rfl) ?_
        refine TL.nil ?_
        show TC _ _ _ _ _ _
        refine TC.ret ?_
        exact ⟨.inr rfl, [_], [_], _, rfl, by decide, rfl, by simp [refV, refC, valC], rfl, resV (by simp at *; exact eq_all hl hyp.2 hb)⟩

-- loop.example/g00975/impl.SameMem: params ['[][]int', '[][]int'] results ['bool'] ('arr', [('app', 'Go.ResultVar.tmp', ['4'])])
theorem impl_SameMem_f (xs ys : List (List Int)) : Fun Try.prog 31 [L 1 (xs.map dIntS), L 1 (ys.map dIntS)] (RV (.bool (decide (xs = ys)))) := by
  refine Fun.of Try.func31 rfl (by simp [Try.ntmps31]) fun w g0 => ?_
  simp only [Try.ntmps31, List.length_cons, List.length_nil, Nat.reduceAdd, Nat.reduceSub, List.replicate, List.cons_append, List.nil_append]
  refine TC.seq ?_
  -- region 0
  refine TC.region ?_
  refine TL.valE rfl (Val.assign 1 rfl rfl) (by simp only [St.put, List.set_cons_succ, List.set_cons_zero]; rfl) ?_
  refine TL.nil ?_
  show TC _ _ _ _ _ _
  refine TC.seq ?_
  -- region 1
  refine TC.region ?_
  refine TL.valE rfl (Val.move 1 rfl rfl) (by simp only [St.put, List.set_cons_succ, List.set_cons_zero]; rfl) ?_
  refine TL.valE rfl (Val.move 1 rfl rfl) (by simp only [St.put, List.set_cons_succ, List.set_cons_zero]; rfl) ?_
  refine TL.callF (yes_none rfl) rfl rfl rfl rfl rfl rfl (slices_EqualFunc_IntS_f xs ys) (by repeat first | exact .nil | refine Snaps.cons (.ro _) ?_ | refine Snaps.cons (.aggRo rfl) ?_ | refine Snaps.cons (.cptr _) ?_ | refine Snaps.cons (.fn _) ?_ | refine Snaps.cons (.ownRef rfl (by first | assumption | exact w_IntS _ | exact w_IntSS _ | exact w_InsS _ | exact w_SlotS _ | exact w_GuestS _ | exact w_BareS _)) ?_ | refine Snaps.cons (.aggR (by repeat first | exact .nil | refine SnapCs.cons (.ro _) ?_ | refine SnapCs.cons (.ref rfl (by first | assumption | exact w_IntS _ | exact w_IntSS _ | exact w_InsS _ | exact w_SlotS _ | exact w_GuestS _ | exact w_BareS _)) ?_)) ?_) rfl (by simp only [St.put, List.set_cons_succ, List.set_cons_zero]; rfl) ?_
  refine TL.valE rfl (Val.assign 1 rfl rfl) (by simp only [St.put, List.set_cons_succ, List.set_cons_zero]; rfl) ?_
  refine TL.nil ?_
  show TC _ _ _ _ _ _
  refine TC.ret ?_
  exact ⟨.inr rfl, [_], [_], _, rfl, by decide, rfl, by simp [refV, refC, valC], rfl, rfl⟩

-- loop.example/g00975/impl.SameGuest: params ['impl.Guest = loop.example/g00975/impl.Guest', 'impl.Guest = loop.example/g00975/impl.Guest'] results ['bool'] ('arr', [('app', 'Go.ResultVar.tmp', ['4'])])
theorem impl_SameGuest_f (x y : VGuest) : Fun Try.prog 33 [A (rGuest x), A (rGuest y)] (RV (.bool (decide (x = y)))) := by
  refine Fun.of Try.func33 rfl (by simp [Try.ntmps33]) fun w g0 => ?_
  simp only [Try.ntmps33, List.length_cons, List.length_nil, Nat.reduceAdd, Nat.reduceSub, List.replicate, List.cons_append, List.nil_append]
  refine TC.seq ?_
  -- region 0
  refine TC.region ?_
  refine TL.opK rfl fun K hK => ?_
  first | refine OpT.box rfl rfl (z := 1) rfl (by simp) ?_ | refine OpT.boxAgg rfl rfl rfl ?_ -- 2
  simp only [St.fresh, St.kill, St.setRoot, St.put, St.renew, TS.kill, TV.kill, C.kill, Rt.kill, boxC, List.map_cons, List.map_nil, List.filter_cons, List.filter_nil, List.set_cons_succ, List.set_cons_zero, List.contains_cons, List.contains_nil, Nat.reduceBEq, Nat.reduceBNe, St.wrote, hitR, hitP, shapeOf, List.isPrefixOf, List.append_eq, Bool.and_true, Bool.true_and, Bool.and_false, Bool.false_and, List.nil_append, List.cons_append, beq_self_eq_true, bne_self_eq_false, Bool.or_false, Bool.or_true, Bool.not_true, Bool.not_false, Bool.false_eq_true, if_true, if_false, reduceIte, resT, valsD, refsD, refD, nextD, nextsD, cellsD, isSl, List.append_nil]
  refine hK _ ?_
  clear hK K
  refine TL.opK rfl fun K hK => ?_
  first | refine OpT.box rfl rfl (z := 1) rfl (by simp) ?_ | refine OpT.boxAgg rfl rfl rfl ?_ -- 3
  simp only [St.fresh, St.kill, St.setRoot, St.put, St.renew, TS.kill, TV.kill, C.kill, Rt.kill, boxC, List.map_cons, List.map_nil, List.filter_cons, List.filter_nil, List.set_cons_succ, List.set_cons_zero, List.contains_cons, List.contains_nil, Nat.reduceBEq, Nat.reduceBNe, St.wrote, hitR, hitP, shapeOf, List.isPrefixOf, List.append_eq, Bool.and_true, Bool.true_and, Bool.and_false, Bool.false_and, List.nil_append, List.cons_append, beq_self_eq_true, bne_self_eq_false, Bool.or_false, Bool.or_true, Bool.not_true, Bool.not_false, Bool.false_eq_true, if_true, if_false, reduceIte, resT, valsD, refsD, refD, nextD, nextsD, cellsD, isSl, List.append_nil]
  refine hK _ ?_
  clear hK K
  refine TL.valE rfl (Val.assign 1 rfl rfl) (by simp only [St.put, List.set_cons_succ, List.set_cons_zero]; rfl) ?_
  refine TL.nil ?_
  show TC _ _ _ _ _ _
  refine TC.seq ?_
  -- region 1
  refine TC.region ?_
  refine TL.valE rfl (by first | exact Val.field rfl rfl rfl | exact Val.fieldC rfl rfl rfl) (by simp only [St.put, List.set_cons_succ, List.set_cons_zero, List.getElem_toArray, List.getElem_cons_succ, List.getElem_cons_zero, Nat.zero_add, Nat.reduceAdd]; rfl) ?_
  refine TL.valE rfl (by first | exact Val.load rfl rfl rfl rfl rfl | exact Val.loadC rfl rfl rfl | exact Val.loadAgg rfl rfl rfl rfl rfl rfl | exact Val.loadCAgg rfl rfl rfl rfl (Nat.le_of_ble_eq_true rfl)) (by simp only [St.put, List.set_cons_succ, List.set_cons_zero, valC]; rfl) ?_
  refine TL.valE rfl (by first | exact Val.field rfl rfl rfl | exact Val.fieldC rfl rfl rfl) (by simp only [St.put, List.set_cons_succ, List.set_cons_zero, List.getElem_toArray, List.getElem_cons_succ, List.getElem_cons_zero, Nat.zero_add, Nat.reduceAdd]; rfl) ?_
  refine TL.valE rfl (by first | exact Val.load rfl rfl rfl rfl rfl | exact Val.loadC rfl rfl rfl | exact Val.loadAgg rfl rfl rfl rfl rfl rfl | exact Val.loadCAgg rfl rfl rfl rfl (Nat.le_of_ble_eq_true rfl)) (by simp only [St.put, List.set_cons_succ, List.set_cons_zero, valC]; rfl) ?_
  refine TL.callF (yes_none rfl) rfl rfl rfl rfl rfl rfl (impl_SameProg_f x.Prog y.Prog) (by repeat first | exact .nil | refine Snaps.cons (.ro _) ?_ | refine Snaps.cons (.aggRo rfl) ?_ | refine Snaps.cons (.cptr _) ?_ | refine Snaps.cons (.fn _) ?_ | refine Snaps.cons (.ownRef rfl (by first | assumption | exact w_IntS _ | exact w_IntSS _ | exact w_InsS _ | exact w_SlotS _ | exact w_GuestS _ | exact w_BareS _)) ?_ | refine Snaps.cons (.aggR (by repeat first | exact .nil | refine SnapCs.cons (.ro _) ?_ | refine SnapCs.cons (.ref rfl (by first | assumption | exact w_IntS _ | exact w_IntSS _ | exact w_InsS _ | exact w_SlotS _ | exact w_GuestS _ | exact w_BareS _)) ?_)) ?_) rfl (by simp only [St.put, List.set_cons_succ, List.set_cons_zero]; rfl) ?_
  refine TL.valE rfl (Val.move 1 rfl rfl) (by simp only [St.put, List.set_cons_succ, List.set_cons_zero]; rfl) ?_
  refine TL.splitG 5 rfl (fun hg5 => ?_) (fun hg5 => ?_)
  · refine TL.guardE rfl rfl hg5 (by first | exact Val.field rfl rfl rfl | exact Val.fieldC rfl rfl rfl) (by simp only [St.put, List.set_cons_succ, List.set_cons_zero, List.getElem_toArray, List.getElem_cons_succ, List.getElem_cons_zero, Nat.zero_add, Nat.reduceAdd]; rfl) ?_
    refine TL.guardE rfl rfl hg5 (by first | exact Val.load rfl rfl rfl rfl rfl | exact Val.loadC rfl rfl rfl | exact Val.loadAgg rfl rfl rfl rfl rfl rfl | exact Val.loadCAgg rfl rfl rfl rfl (Nat.le_of_ble_eq_true rfl)) (by simp only [St.put, List.set_cons_succ, List.set_cons_zero, valC]; rfl) ?_
    refine TL.guardE rfl rfl hg5 (by first | exact Val.field rfl rfl rfl | exact Val.fieldC rfl rfl rfl) (by simp only [St.put, List.set_cons_succ, List.set_cons_zero, List.getElem_toArray, List.getElem_cons_succ, List.getElem_cons_zero, Nat.zero_add, Nat.reduceAdd]; rfl) ?_
    refine TL.guardE rfl rfl hg5 (by first | exact Val.load rfl rfl rfl rfl rfl | exact Val.loadC rfl rfl rfl | exact Val.loadAgg rfl rfl rfl rfl rfl rfl | exact Val.loadCAgg rfl rfl rfl rfl (Nat.le_of_ble_eq_true rfl)) (by simp only [St.put, List.set_cons_succ, List.set_cons_zero, valC]; rfl) ?_
    refine TL.guardE rfl rfl hg5 (Val.eql rfl rfl rfl) (by simp only [St.put, List.set_cons_succ, List.set_cons_zero]; rfl) ?_
    refine TL.valE rfl (Val.pickT rfl rfl hg5 rfl) (by simp only [St.put, List.set_cons_succ, List.set_cons_zero]; rfl) ?_
    refine TL.valE rfl (Val.move 1 rfl rfl) (by simp only [St.put, List.set_cons_succ, List.set_cons_zero]; rfl) ?_
    refine TL.splitG 12 rfl (fun hg12 => ?_) (fun hg12 => ?_)
    · refine TL.guardE rfl rfl hg12 (by first | exact Val.field rfl rfl rfl | exact Val.fieldC rfl rfl rfl) (by simp only [St.put, List.set_cons_succ, List.set_cons_zero, List.getElem_toArray, List.getElem_cons_succ, List.getElem_cons_zero, Nat.zero_add, Nat.reduceAdd]; rfl) ?_
      refine TL.guardE rfl rfl hg12 (by first | exact Val.load rfl rfl rfl rfl rfl | exact Val.loadC rfl rfl rfl | exact Val.loadAgg rfl rfl rfl rfl rfl rfl | exact Val.loadCAgg rfl rfl rfl rfl (Nat.le_of_ble_eq_true rfl)) (by simp only [St.put, List.set_cons_succ, List.set_cons_zero, valC]; rfl) ?_
      refine TL.guardE rfl rfl hg12 (by first | exact Val.field rfl rfl rfl | exact Val.fieldC rfl rfl rfl) (by simp only [St.put, List.set_cons_succ, List.set_cons_zero, List.getElem_toArray, List.getElem_cons_succ, List.getElem_cons_zero, Nat.zero_add, Nat.reduceAdd]; rfl) ?_
      refine TL.guardE rfl rfl hg12 (by first | exact Val.load rfl rfl rfl rfl rfl | exact Val.loadC rfl rfl rfl | exact Val.loadAgg rfl rfl rfl rfl rfl rfl | exact Val.loadCAgg rfl rfl rfl rfl (Nat.le_of_ble_eq_true rfl)) (by simp only [St.put, List.set_cons_succ, List.set_cons_zero, valC]; rfl) ?_
      refine TL.guardE rfl rfl hg12 (Val.eql rfl rfl rfl) (by simp only [St.put, List.set_cons_succ, List.set_cons_zero]; rfl) ?_
      refine TL.valE rfl (Val.pickT rfl rfl hg12 rfl) (by simp only [St.put, List.set_cons_succ, List.set_cons_zero]; rfl) ?_
      refine TL.valE rfl (Val.move 1 rfl rfl) (by simp only [St.put, List.set_cons_succ, List.set_cons_zero]; rfl) ?_
      refine TL.splitG 19 rfl (fun hg19 => ?_) (fun hg19 => ?_)
      · refine TL.guardE rfl rfl hg19 (by first | exact Val.field rfl rfl rfl | exact Val.fieldC rfl rfl rfl) (by simp only [St.put, List.set_cons_succ, List.set_cons_zero, List.getElem_toArray, List.getElem_cons_succ, List.getElem_cons_zero, Nat.zero_add, Nat.reduceAdd]; rfl) ?_
        refine TL.guardE rfl rfl hg19 (by first | exact Val.load rfl rfl rfl rfl rfl | exact Val.loadC rfl rfl rfl | exact Val.loadAgg rfl rfl rfl rfl rfl rfl | exact Val.loadCAgg rfl rfl rfl rfl (Nat.le_of_ble_eq_true rfl)) (by simp only [St.put, List.set_cons_succ, List.set_cons_zero, valC]; rfl) ?_
        refine TL.guardE rfl rfl hg19 (by first | exact Val.field rfl rfl rfl | exact Val.fieldC rfl rfl rfl) (by simp only [St.put, List.set_cons_succ, List.set_cons_zero, List.getElem_toArray, List.getElem_cons_succ, List.getElem_cons_zero, Nat.zero_add, Nat.reduceAdd]; rfl) ?_
        refine TL.guardE rfl rfl hg19 (by first | exact Val.load rfl rfl rfl rfl rfl | exact Val.loadC rfl rfl rfl | exact Val.loadAgg rfl rfl rfl rfl rfl rfl | exact Val.loadCAgg rfl rfl rfl rfl (Nat.le_of_ble_eq_true rfl)) (by simp only [St.put, List.set_cons_succ, List.set_cons_zero, valC]; rfl) ?_
        refine TL.callF (yes_some rfl rfl hg19) rfl rfl rfl rfl rfl rfl (impl_SameTable_f x.Written y.Written) (by repeat first | exact .nil | refine Snaps.cons (.ro _) ?_ | refine Snaps.cons (.aggRo rfl) ?_ | refine Snaps.cons (.cptr _) ?_ | refine Snaps.cons (.fn _) ?_ | refine Snaps.cons (.ownRef rfl (by first | assumption | exact w_IntS _ | exact w_IntSS _ | exact w_InsS _ | exact w_SlotS _ | exact w_GuestS _ | exact w_BareS _)) ?_ | refine Snaps.cons (.aggR (by repeat first | exact .nil | refine SnapCs.cons (.ro _) ?_ | refine SnapCs.cons (.ref rfl (by first | assumption | exact w_IntS _ | exact w_IntSS _ | exact w_InsS _ | exact w_SlotS _ | exact w_GuestS _ | exact w_BareS _)) ?_)) ?_) rfl (by simp only [St.put, List.set_cons_succ, List.set_cons_zero]; rfl) ?_
        refine TL.valE rfl (Val.pickT rfl rfl hg19 rfl) (by simp only [St.put, List.set_cons_succ, List.set_cons_zero]; rfl) ?_
        refine TL.valE rfl (Val.move 1 rfl rfl) (by simp only [St.put, List.set_cons_succ, List.set_cons_zero]; rfl) ?_
        refine TL.splitG 26 rfl (fun hg26 => ?_) (fun hg26 => ?_)
        · refine TL.guardE rfl rfl hg26 (by first | exact Val.field rfl rfl rfl | exact Val.fieldC rfl rfl rfl) (by simp only [St.put, List.set_cons_succ, List.set_cons_zero, List.getElem_toArray, List.getElem_cons_succ, List.getElem_cons_zero, Nat.zero_add, Nat.reduceAdd]; rfl) ?_
          refine TL.guardE rfl rfl hg26 (by first | exact Val.load rfl rfl rfl rfl rfl | exact Val.loadC rfl rfl rfl | exact Val.loadAgg rfl rfl rfl rfl rfl rfl | exact Val.loadCAgg rfl rfl rfl rfl (Nat.le_of_ble_eq_true rfl)) (by simp only [St.put, List.set_cons_succ, List.set_cons_zero, valC]; rfl) ?_
          refine TL.guardE rfl rfl hg26 (by first | exact Val.field rfl rfl rfl | exact Val.fieldC rfl rfl rfl) (by simp only [St.put, List.set_cons_succ, List.set_cons_zero, List.getElem_toArray, List.getElem_cons_succ, List.getElem_cons_zero, Nat.zero_add, Nat.reduceAdd]; rfl) ?_
          refine TL.guardE rfl rfl hg26 (by first | exact Val.load rfl rfl rfl rfl rfl | exact Val.loadC rfl rfl rfl | exact Val.loadAgg rfl rfl rfl rfl rfl rfl | exact Val.loadCAgg rfl rfl rfl rfl (Nat.le_of_ble_eq_true rfl)) (by simp only [St.put, List.set_cons_succ, List.set_cons_zero, valC]; rfl) ?_
          refine TL.callF (yes_some rfl rfl hg26) rfl rfl rfl rfl rfl rfl (impl_SameTable_f x.Live y.Live) (by repeat first | exact .nil | refine Snaps.cons (.ro _) ?_ | refine Snaps.cons (.aggRo rfl) ?_ | refine Snaps.cons (.cptr _) ?_ | refine Snaps.cons (.fn _) ?_ | refine Snaps.cons (.ownRef rfl (by first | assumption | exact w_IntS _ | exact w_IntSS _ | exact w_InsS _ | exact w_SlotS _ | exact w_GuestS _ | exact w_BareS _)) ?_ | refine Snaps.cons (.aggR (by repeat first | exact .nil | refine SnapCs.cons (.ro _) ?_ | refine SnapCs.cons (.ref rfl (by first | assumption | exact w_IntS _ | exact w_IntSS _ | exact w_InsS _ | exact w_SlotS _ | exact w_GuestS _ | exact w_BareS _)) ?_)) ?_) rfl (by simp only [St.put, List.set_cons_succ, List.set_cons_zero]; rfl) ?_
          refine TL.valE rfl (Val.pickT rfl rfl hg26 rfl) (by simp only [St.put, List.set_cons_succ, List.set_cons_zero]; rfl) ?_
          refine TL.valE rfl (Val.move 1 rfl rfl) (by simp only [St.put, List.set_cons_succ, List.set_cons_zero]; rfl) ?_
          refine TL.splitG 33 rfl (fun hg33 => ?_) (fun hg33 => ?_)
          · refine TL.guardE rfl rfl hg33 (by first | exact Val.field rfl rfl rfl | exact Val.fieldC rfl rfl rfl) (by simp only [St.put, List.set_cons_succ, List.set_cons_zero, List.getElem_toArray, List.getElem_cons_succ, List.getElem_cons_zero, Nat.zero_add, Nat.reduceAdd]; rfl) ?_
            refine TL.guardE rfl rfl hg33 (by first | exact Val.load rfl rfl rfl rfl rfl | exact Val.loadC rfl rfl rfl | exact Val.loadAgg rfl rfl rfl rfl rfl rfl | exact Val.loadCAgg rfl rfl rfl rfl (Nat.le_of_ble_eq_true rfl)) (by simp only [St.put, List.set_cons_succ, List.set_cons_zero, valC]; rfl) ?_
            refine TL.guardE rfl rfl hg33 (by first | exact Val.field rfl rfl rfl | exact Val.fieldC rfl rfl rfl) (by simp only [St.put, List.set_cons_succ, List.set_cons_zero, List.getElem_toArray, List.getElem_cons_succ, List.getElem_cons_zero, Nat.zero_add, Nat.reduceAdd]; rfl) ?_
            refine TL.guardE rfl rfl hg33 (by first | exact Val.load rfl rfl rfl rfl rfl | exact Val.loadC rfl rfl rfl | exact Val.loadAgg rfl rfl rfl rfl rfl rfl | exact Val.loadCAgg rfl rfl rfl rfl (Nat.le_of_ble_eq_true rfl)) (by simp only [St.put, List.set_cons_succ, List.set_cons_zero, valC]; rfl) ?_
            refine TL.guardE rfl rfl hg33 (Val.eqlA rfl rfl rfl rfl rfl rfl (by kernel_rfl) (by kernel_rfl) rfl) (by simp only [St.put, List.set_cons_succ, List.set_cons_zero]; rfl) ?_
            refine TL.valE rfl (Val.pickT rfl rfl hg33 rfl) (by simp only [St.put, List.set_cons_succ, List.set_cons_zero]; rfl) ?_
            refine TL.valE rfl (Val.move 1 rfl rfl) (by simp only [St.put, List.set_cons_succ, List.set_cons_zero]; rfl) ?_
            refine TL.splitG 40 rfl (fun hg40 => ?_) (fun hg40 => ?_)
            · refine TL.guardE rfl rfl hg40 (by first | exact Val.field rfl rfl rfl | exact Val.fieldC rfl rfl rfl) (by simp only [St.put, List.set_cons_succ, List.set_cons_zero, List.getElem_toArray, List.getElem_cons_succ, List.getElem_cons_zero, Nat.zero_add, Nat.reduceAdd]; rfl) ?_
              refine TL.guardE rfl rfl hg40 (by first | exact Val.load rfl rfl rfl rfl rfl | exact Val.loadC rfl rfl rfl | exact Val.loadAgg rfl rfl rfl rfl rfl rfl | exact Val.loadCAgg rfl rfl rfl rfl (Nat.le_of_ble_eq_true rfl)) (by simp only [St.put, List.set_cons_succ, List.set_cons_zero, valC]; rfl) ?_
              refine TL.guardE rfl rfl hg40 (by first | exact Val.field rfl rfl rfl | exact Val.fieldC rfl rfl rfl) (by simp only [St.put, List.set_cons_succ, List.set_cons_zero, List.getElem_toArray, List.getElem_cons_succ, List.getElem_cons_zero, Nat.zero_add, Nat.reduceAdd]; rfl) ?_
              refine TL.guardE rfl rfl hg40 (by first | exact Val.load rfl rfl rfl rfl rfl | exact Val.loadC rfl rfl rfl | exact Val.loadAgg rfl rfl rfl rfl rfl rfl | exact Val.loadCAgg rfl rfl rfl rfl (Nat.le_of_ble_eq_true rfl)) (by simp only [St.put, List.set_cons_succ, List.set_cons_zero, valC]; rfl) ?_
              refine TL.guardE rfl rfl hg40 (Val.eql rfl rfl rfl) (by simp only [St.put, List.set_cons_succ, List.set_cons_zero]; rfl) ?_
              refine TL.valE rfl (Val.pickT rfl rfl hg40 rfl) (by simp only [St.put, List.set_cons_succ, List.set_cons_zero]; rfl) ?_
              refine TL.valE rfl (Val.move 1 rfl rfl) (by simp only [St.put, List.set_cons_succ, List.set_cons_zero]; rfl) ?_
              refine TL.splitG 47 rfl (fun hg47 => ?_) (fun hg47 => ?_)
              · refine TL.guardE rfl rfl hg47 (by first | exact Val.field rfl rfl rfl | exact Val.fieldC rfl rfl rfl) (by simp only [St.put, List.set_cons_succ, List.set_cons_zero, List.getElem_toArray, List.getElem_cons_succ, List.getElem_cons_zero, Nat.zero_add, Nat.reduceAdd]; rfl) ?_
                refine TL.guardE rfl rfl hg47 (by first | exact Val.load rfl rfl rfl rfl rfl | exact Val.loadC rfl rfl rfl | exact Val.loadAgg rfl rfl rfl rfl rfl rfl | exact Val.loadCAgg rfl rfl rfl rfl (Nat.le_of_ble_eq_true rfl)) (by simp only [St.put, List.set_cons_succ, List.set_cons_zero, valC]; rfl) ?_
                refine TL.guardE rfl rfl hg47 (by first | exact Val.field rfl rfl rfl | exact Val.fieldC rfl rfl rfl) (by simp only [St.put, List.set_cons_succ, List.set_cons_zero, List.getElem_toArray, List.getElem_cons_succ, List.getElem_cons_zero, Nat.zero_add, Nat.reduceAdd]; rfl) ?_
                refine TL.guardE rfl rfl hg47 (by first | exact Val.load rfl rfl rfl rfl rfl | exact Val.loadC rfl rfl rfl | exact Val.loadAgg rfl rfl rfl rfl rfl rfl | exact Val.loadCAgg rfl rfl rfl rfl (Nat.le_of_ble_eq_true rfl)) (by simp only [St.put, List.set_cons_succ, List.set_cons_zero, valC]; rfl) ?_
                refine TL.guardE rfl rfl hg47 (Val.eqlA rfl rfl rfl rfl rfl rfl (by kernel_rfl) (by kernel_rfl) rfl) (by simp only [St.put, List.set_cons_succ, List.set_cons_zero]; rfl) ?_
                refine TL.valE rfl (Val.pickT rfl rfl hg47 rfl) (by simp only [St.put, List.set_cons_succ, List.set_cons_zero]; rfl) ?_
                refine TL.valE rfl (Val.move 1 rfl rfl) (by simp only [St.put, List.set_cons_succ, List.set_cons_zero]; rfl) ?_
                refine TL.splitG 54 rfl (fun hg54 => ?_) (fun hg54 => ?_)
                · refine TL.guardE rfl rfl hg54 (by first | exact Val.field rfl rfl rfl | exact Val.fieldC rfl rfl rfl) (by simp only [St.put, List.set_cons_succ, List.set_cons_zero, List.getElem_toArray, List.getElem_cons_succ, List.getElem_cons_zero, Nat.zero_add, Nat.reduceAdd]; rfl) ?_
                  refine TL.guardE rfl rfl hg54 (by first | exact Val.load rfl rfl rfl rfl rfl | exact Val.loadC rfl rfl rfl | exact Val.loadAgg rfl rfl rfl rfl rfl rfl | exact Val.loadCAgg rfl rfl rfl rfl (Nat.le_of_ble_eq_true rfl)) (by simp only [St.put, List.set_cons_succ, List.set_cons_zero, valC]; rfl) ?_
                  refine TL.guardE rfl rfl hg54 (by first | exact Val.field rfl rfl rfl | exact Val.fieldC rfl rfl rfl) (by simp only [St.put, List.set_cons_succ, List.set_cons_zero, List.getElem_toArray, List.getElem_cons_succ, List.getElem_cons_zero, Nat.zero_add, Nat.reduceAdd]; rfl) ?_
                  refine TL.guardE rfl rfl hg54 (by first | exact Val.load rfl rfl rfl rfl rfl | exact Val.loadC rfl rfl rfl | exact Val.loadAgg rfl rfl rfl rfl rfl rfl | exact Val.loadCAgg rfl rfl rfl rfl (Nat.le_of_ble_eq_true rfl)) (by simp only [St.put, List.set_cons_succ, List.set_cons_zero, valC]; rfl) ?_
                  refine TL.guardE rfl rfl hg54 (Val.eqlB rfl rfl rfl rfl) (by simp only [St.put, List.set_cons_succ, List.set_cons_zero]; rfl) ?_
                  refine TL.valE rfl (Val.pickT rfl rfl hg54 rfl) (by simp only [St.put, List.set_cons_succ, List.set_cons_zero]; rfl) ?_
                  refine TL.valE rfl (Val.move 1 rfl rfl) (by simp only [St.put, List.set_cons_succ, List.set_cons_zero]; rfl) ?_
                  refine TL.splitG 61 rfl (fun hg61 => ?_) (fun hg61 => ?_)
                  · refine TL.guardE rfl rfl hg61 (by first | exact Val.field rfl rfl rfl | exact Val.fieldC rfl rfl rfl) (by simp only [St.put, List.set_cons_succ, List.set_cons_zero, List.getElem_toArray, List.getElem_cons_succ, List.getElem_cons_zero, Nat.zero_add, Nat.reduceAdd]; rfl) ?_
                    refine TL.guardE rfl rfl hg61 (by first | exact Val.load rfl rfl rfl rfl rfl | exact Val.loadC rfl rfl rfl | exact Val.loadAgg rfl rfl rfl rfl rfl rfl | exact Val.loadCAgg rfl rfl rfl rfl (Nat.le_of_ble_eq_true rfl)) (by simp only [St.put, List.set_cons_succ, List.set_cons_zero, valC]; rfl) ?_
                    refine TL.guardE rfl rfl hg61 (by first | exact Val.field rfl rfl rfl | exact Val.fieldC rfl rfl rfl) (by simp only [St.put, List.set_cons_succ, List.set_cons_zero, List.getElem_toArray, List.getElem_cons_succ, List.getElem_cons_zero, Nat.zero_add, Nat.reduceAdd]; rfl) ?_
                    refine TL.guardE rfl rfl hg61 (by first | exact Val.load rfl rfl rfl rfl rfl | exact Val.loadC rfl rfl rfl | exact Val.loadAgg rfl rfl rfl rfl rfl rfl | exact Val.loadCAgg rfl rfl rfl rfl (Nat.le_of_ble_eq_true rfl)) (by simp only [St.put, List.set_cons_succ, List.set_cons_zero, valC]; rfl) ?_
                    refine TL.callF (yes_some rfl rfl hg61) rfl rfl rfl rfl rfl rfl (slices_Equal_Int_f x.Seen y.Seen) (by repeat first | exact .nil | refine Snaps.cons (.ro _) ?_ | refine Snaps.cons (.aggRo rfl) ?_ | refine Snaps.cons (.cptr _) ?_ | refine Snaps.cons (.fn _) ?_ | refine Snaps.cons (.ownRef rfl (by first | assumption | exact w_IntS _ | exact w_IntSS _ | exact w_InsS _ | exact w_SlotS _ | exact w_GuestS _ | exact w_BareS _)) ?_ | refine Snaps.cons (.aggR (by repeat first | exact .nil | refine SnapCs.cons (.ro _) ?_ | refine SnapCs.cons (.ref rfl (by first | assumption | exact w_IntS _ | exact w_IntSS _ | exact w_InsS _ | exact w_SlotS _ | exact w_GuestS _ | exact w_BareS _)) ?_)) ?_) rfl (by simp only [St.put, List.set_cons_succ, List.set_cons_zero]; rfl) ?_
                    refine TL.valE rfl (Val.pickT rfl rfl hg61 rfl) (by simp only [St.put, List.set_cons_succ, List.set_cons_zero]; rfl) ?_
                    refine TL.valE rfl (Val.assign 1 rfl rfl) (by simp only [St.put, List.set_cons_succ, List.set_cons_zero]; rfl) ?_
                    refine TL.nil ?_
                    show TC _ _ _ _ _ _
                    refine TC.ret ?_
                    exact ⟨.inr rfl, [_], [_], _, rfl, by decide, rfl, by simp [refV, refC, valC], rfl, resV (by simp_all [eq_Ins, eq_Slot, eq_Ctl, eq_Exit, eq_Guest, eqVs, eqV])⟩
                  · iterate 5 (refine TL.guardN rfl rfl hg61 (by simp only [St.put, List.set_cons_succ, List.set_cons_zero]; rfl) ?_)
                    refine TL.valE rfl (Val.pickF rfl rfl hg61 rfl) (by simp only [St.put, List.set_cons_succ, List.set_cons_zero]; rfl) ?_
                    refine TL.valE rfl (Val.assign 1 rfl rfl) (by simp only [St.put, List.set_cons_succ, List.set_cons_zero]; rfl) ?_
                    refine TL.nil ?_
                    show TC _ _ _ _ _ _
                    refine TC.ret ?_
                    exact ⟨.inr rfl, [_], [_], _, rfl, by decide, rfl, by simp [refV, refC, valC], rfl, resV (by simp_all [eq_Ins, eq_Slot, eq_Ctl, eq_Exit, eq_Guest, eqVs, eqV])⟩
                · iterate 5 (refine TL.guardN rfl rfl hg54 (by simp only [St.put, List.set_cons_succ, List.set_cons_zero]; rfl) ?_)
                  refine TL.valE rfl (Val.pickF rfl rfl hg54 rfl) (by simp only [St.put, List.set_cons_succ, List.set_cons_zero]; rfl) ?_
                  refine TL.valE rfl (Val.move 1 rfl rfl) (by simp only [St.put, List.set_cons_succ, List.set_cons_zero]; rfl) ?_
                  iterate 5 (refine TL.guardN rfl rfl rfl (by simp only [St.put, List.set_cons_succ, List.set_cons_zero]; rfl) ?_)
                  refine TL.valE rfl (Val.pickF rfl rfl rfl rfl) (by simp only [St.put, List.set_cons_succ, List.set_cons_zero]; rfl) ?_
                  refine TL.valE rfl (Val.assign 1 rfl rfl) (by simp only [St.put, List.set_cons_succ, List.set_cons_zero]; rfl) ?_
                  refine TL.nil ?_
                  show TC _ _ _ _ _ _
                  refine TC.ret ?_
                  exact ⟨.inr rfl, [_], [_], _, rfl, by decide, rfl, by simp [refV, refC, valC], rfl, resV (by simp_all [eq_Ins, eq_Slot, eq_Ctl, eq_Exit, eq_Guest, eqVs, eqV])⟩
              · iterate 5 (refine TL.guardN rfl rfl hg47 (by simp only [St.put, List.set_cons_succ, List.set_cons_zero]; rfl) ?_)
                refine TL.valE rfl (Val.pickF rfl rfl hg47 rfl) (by simp only [St.put, List.set_cons_succ, List.set_cons_zero]; rfl) ?_
                refine TL.valE rfl (Val.move 1 rfl rfl) (by simp only [St.put, List.set_cons_succ, List.set_cons_zero]; rfl) ?_
                iterate 5 (refine TL.guardN rfl rfl rfl (by simp only [St.put, List.set_cons_succ, List.set_cons_zero]; rfl) ?_)
                refine TL.valE rfl (Val.pickF rfl rfl rfl rfl) (by simp only [St.put, List.set_cons_succ, List.set_cons_zero]; rfl) ?_
                refine TL.valE rfl (Val.move 1 rfl rfl) (by simp only [St.put, List.set_cons_succ, List.set_cons_zero]; rfl) ?_
                iterate 5 (refine TL.guardN rfl rfl rfl (by simp only [St.put, List.set_cons_succ, List.set_cons_zero]; rfl) ?_)
                refine TL.valE rfl (Val.pickF rfl rfl rfl rfl) (by simp only [St.put, List.set_cons_succ, List.set_cons_zero]; rfl) ?_
                refine TL.valE rfl (Val.assign 1 rfl rfl) (by simp only [St.put, List.set_cons_succ, List.set_cons_zero]; rfl) ?_
                refine TL.nil ?_
                show TC _ _ _ _ _ _
                refine TC.ret ?_
                exact ⟨.inr rfl, [_], [_], _, rfl, by decide, rfl, by simp [refV, refC, valC], rfl, resV (by simp_all [eq_Ins, eq_Slot, eq_Ctl, eq_Exit, eq_Guest, eqVs, eqV])⟩
            · iterate 5 (refine TL.guardN rfl rfl hg40 (by simp only [St.put, List.set_cons_succ, List.set_cons_zero]; rfl) ?_)
              refine TL.valE rfl (Val.pickF rfl rfl hg40 rfl) (by simp only [St.put, List.set_cons_succ, List.set_cons_zero]; rfl) ?_
              refine TL.valE rfl (Val.move 1 rfl rfl) (by simp only [St.put, List.set_cons_succ, List.set_cons_zero]; rfl) ?_
              iterate 5 (refine TL.guardN rfl rfl rfl (by simp only [St.put, List.set_cons_succ, List.set_cons_zero]; rfl) ?_)
              refine TL.valE rfl (Val.pickF rfl rfl rfl rfl) (by simp only [St.put, List.set_cons_succ, List.set_cons_zero]; rfl) ?_
              refine TL.valE rfl (Val.move 1 rfl rfl) (by simp only [St.put, List.set_cons_succ, List.set_cons_zero]; rfl) ?_
              iterate 5 (refine TL.guardN rfl rfl rfl (by simp only [St.put, List.set_cons_succ, List.set_cons_zero]; rfl) ?_)
              refine TL.valE rfl (Val.pickF rfl rfl rfl rfl) (by simp only [St.put, List.set_cons_succ, List.set_cons_zero]; rfl) ?_
              refine TL.valE rfl (Val.move 1 rfl rfl) (by simp only [St.put, List.set_cons_succ, List.set_cons_zero]; rfl) ?_
              iterate 5 (refine TL.guardN rfl rfl rfl (by simp only [St.put, List.set_cons_succ, List.set_cons_zero]; rfl) ?_)
              refine TL.valE rfl (Val.pickF rfl rfl rfl rfl) (by simp only [St.put, List.set_cons_succ, List.set_cons_zero]; rfl) ?_
              refine TL.valE rfl (Val.assign 1 rfl rfl) (by simp only [St.put, List.set_cons_succ, List.set_cons_zero]; rfl) ?_
              refine TL.nil ?_
              show TC _ _ _ _ _ _
              refine TC.ret ?_
              exact ⟨.inr rfl, [_], [_], _, rfl, by decide, rfl, by simp [refV, refC, valC], rfl, resV (by simp_all [eq_Ins, eq_Slot, eq_Ctl, eq_Exit, eq_Guest, eqVs, eqV])⟩
          · iterate 5 (refine TL.guardN rfl rfl hg33 (by simp only [St.put, List.set_cons_succ, List.set_cons_zero]; rfl) ?_)
            refine TL.valE rfl (Val.pickF rfl rfl hg33 rfl) (by simp only [St.put, List.set_cons_succ, List.set_cons_zero]; rfl) ?_
            refine TL.valE rfl (Val.move 1 rfl rfl) (by simp only [St.put, List.set_cons_succ, List.set_cons_zero]; rfl) ?_
            iterate 5 (refine TL.guardN rfl rfl rfl (by simp only [St.put, List.set_cons_succ, List.set_cons_zero]; rfl) ?_)
            refine TL.valE rfl (Val.pickF rfl rfl rfl rfl) (by simp only [St.put, List.set_cons_succ, List.set_cons_zero]; rfl) ?_
            refine TL.valE rfl (Val.move 1 rfl rfl) (by simp only [St.put, List.set_cons_succ, List.set_cons_zero]; rfl) ?_
            iterate 5 (refine TL.guardN rfl rfl rfl (by simp only [St.put, List.set_cons_succ, List.set_cons_zero]; rfl) ?_)
            refine TL.valE rfl (Val.pickF rfl rfl rfl rfl) (by simp only [St.put, List.set_cons_succ, List.set_cons_zero]; rfl) ?_
            refine TL.valE rfl (Val.move 1 rfl rfl) (by simp only [St.put, List.set_cons_succ, List.set_cons_zero]; rfl) ?_
            iterate 5 (refine TL.guardN rfl rfl rfl (by simp only [St.put, List.set_cons_succ, List.set_cons_zero]; rfl) ?_)
            refine TL.valE rfl (Val.pickF rfl rfl rfl rfl) (by simp only [St.put, List.set_cons_succ, List.set_cons_zero]; rfl) ?_
            refine TL.valE rfl (Val.move 1 rfl rfl) (by simp only [St.put, List.set_cons_succ, List.set_cons_zero]; rfl) ?_
            iterate 5 (refine TL.guardN rfl rfl rfl (by simp only [St.put, List.set_cons_succ, List.set_cons_zero]; rfl) ?_)
            refine TL.valE rfl (Val.pickF rfl rfl rfl rfl) (by simp only [St.put, List.set_cons_succ, List.set_cons_zero]; rfl) ?_
            refine TL.valE rfl (Val.assign 1 rfl rfl) (by simp only [St.put, List.set_cons_succ, List.set_cons_zero]; rfl) ?_
            refine TL.nil ?_
            show TC _ _ _ _ _ _
            refine TC.ret ?_
            exact ⟨.inr rfl, [_], [_], _, rfl, by decide, rfl, by simp [refV, refC, valC], rfl, resV (by simp_all [eq_Ins, eq_Slot, eq_Ctl, eq_Exit, eq_Guest, eqVs, eqV])⟩
        · iterate 5 (refine TL.guardN rfl rfl hg26 (by simp only [St.put, List.set_cons_succ, List.set_cons_zero]; rfl) ?_)
          refine TL.valE rfl (Val.pickF rfl rfl hg26 rfl) (by simp only [St.put, List.set_cons_succ, List.set_cons_zero]; rfl) ?_
          refine TL.valE rfl (Val.move 1 rfl rfl) (by simp only [St.put, List.set_cons_succ, List.set_cons_zero]; rfl) ?_
          iterate 5 (refine TL.guardN rfl rfl rfl (by simp only [St.put, List.set_cons_succ, List.set_cons_zero]; rfl) ?_)
          refine TL.valE rfl (Val.pickF rfl rfl rfl rfl) (by simp only [St.put, List.set_cons_succ, List.set_cons_zero]; rfl) ?_
          refine TL.valE rfl (Val.move 1 rfl rfl) (by simp only [St.put, List.set_cons_succ, List.set_cons_zero]; rfl) ?_
          iterate 5 (refine TL.guardN rfl rfl rfl (by simp only [St.put, List.set_cons_succ, List.set_cons_zero]; rfl) ?_)
          refine TL.valE rfl (Val.pickF rfl rfl rfl rfl) (by simp only [St.put, List.set_cons_succ, List.set_cons_zero]; rfl) ?_
          refine TL.valE rfl (Val.move 1 rfl rfl) (by simp only [St.put, List.set_cons_succ, List.set_cons_zero]; rfl) ?_
          iterate 5 (refine TL.guardN rfl rfl rfl (by simp only [St.put, List.set_cons_succ, List.set_cons_zero]; rfl) ?_)
          refine TL.valE rfl (Val.pickF rfl rfl rfl rfl) (by simp only [St.put, List.set_cons_succ, List.set_cons_zero]; rfl) ?_
          refine TL.valE rfl (Val.move 1 rfl rfl) (by simp only [St.put, List.set_cons_succ, List.set_cons_zero]; rfl) ?_
          iterate 5 (refine TL.guardN rfl rfl rfl (by simp only [St.put, List.set_cons_succ, List.set_cons_zero]; rfl) ?_)
          refine TL.valE rfl (Val.pickF rfl rfl rfl rfl) (by simp only [St.put, List.set_cons_succ, List.set_cons_zero]; rfl) ?_
          refine TL.valE rfl (Val.move 1 rfl rfl) (by simp only [St.put, List.set_cons_succ, List.set_cons_zero]; rfl) ?_
          iterate 5 (refine TL.guardN rfl rfl rfl (by simp only [St.put, List.set_cons_succ, List.set_cons_zero]; rfl) ?_)
          refine TL.valE rfl (Val.pickF rfl rfl rfl rfl) (by simp only [St.put, List.set_cons_succ, List.set_cons_zero]; rfl) ?_
          refine TL.valE rfl (Val.assign 1 rfl rfl) (by simp only [St.put, List.set_cons_succ, List.set_cons_zero]; rfl) ?_
          refine TL.nil ?_
          show TC _ _ _ _ _ _
          refine TC.ret ?_
          exact ⟨.inr rfl, [_], [_], _, rfl, by decide, rfl, by simp [refV, refC, valC], rfl, resV (by simp_all [eq_Ins, eq_Slot, eq_Ctl, eq_Exit, eq_Guest, eqVs, eqV])⟩
      · iterate 5 (refine TL.guardN rfl rfl hg19 (by simp only [St.put, List.set_cons_succ, List.set_cons_zero]; rfl) ?_)
        refine TL.valE rfl (Val.pickF rfl rfl hg19 rfl) (by simp only [St.put, List.set_cons_succ, List.set_cons_zero]; rfl) ?_
        refine TL.valE rfl (Val.move 1 rfl rfl) (by simp only [St.put, List.set_cons_succ, List.set_cons_zero]; rfl) ?_
        iterate 5 (refine TL.guardN rfl rfl rfl (by simp only [St.put, List.set_cons_succ, List.set_cons_zero]; rfl) ?_)
        refine TL.valE rfl (Val.pickF rfl rfl rfl rfl) (by simp only [St.put, List.set_cons_succ, List.set_cons_zero]; rfl) ?_
        refine TL.valE rfl (Val.move 1 rfl rfl) (by simp only [St.put, List.set_cons_succ, List.set_cons_zero]; rfl) ?_
        iterate 5 (refine TL.guardN rfl rfl rfl (by simp only [St.put, List.set_cons_succ, List.set_cons_zero]; rfl) ?_)
        refine TL.valE rfl (Val.pickF rfl rfl rfl rfl) (by simp only [St.put, List.set_cons_succ, List.set_cons_zero]; rfl) ?_
        refine TL.valE rfl (Val.move 1 rfl rfl) (by simp only [St.put, List.set_cons_succ, List.set_cons_zero]; rfl) ?_
        iterate 5 (refine TL.guardN rfl rfl rfl (by simp only [St.put, List.set_cons_succ, List.set_cons_zero]; rfl) ?_)
        refine TL.valE rfl (Val.pickF rfl rfl rfl rfl) (by simp only [St.put, List.set_cons_succ, List.set_cons_zero]; rfl) ?_
        refine TL.valE rfl (Val.move 1 rfl rfl) (by simp only [St.put, List.set_cons_succ, List.set_cons_zero]; rfl) ?_
        iterate 5 (refine TL.guardN rfl rfl rfl (by simp only [St.put, List.set_cons_succ, List.set_cons_zero]; rfl) ?_)
        refine TL.valE rfl (Val.pickF rfl rfl rfl rfl) (by simp only [St.put, List.set_cons_succ, List.set_cons_zero]; rfl) ?_
        refine TL.valE rfl (Val.move 1 rfl rfl) (by simp only [St.put, List.set_cons_succ, List.set_cons_zero]; rfl) ?_
        iterate 5 (refine TL.guardN rfl rfl rfl (by simp only [St.put, List.set_cons_succ, List.set_cons_zero]; rfl) ?_)
        refine TL.valE rfl (Val.pickF rfl rfl rfl rfl) (by simp only [St.put, List.set_cons_succ, List.set_cons_zero]; rfl) ?_
        refine TL.valE rfl (Val.move 1 rfl rfl) (by simp only [St.put, List.set_cons_succ, List.set_cons_zero]; rfl) ?_
        iterate 5 (refine TL.guardN rfl rfl rfl (by simp only [St.put, List.set_cons_succ, List.set_cons_zero]; rfl) ?_)
        refine TL.valE rfl (Val.pickF rfl rfl rfl rfl) (by simp only [St.put, List.set_cons_succ, List.set_cons_zero]; rfl) ?_
        refine TL.valE rfl (Val.assign 1 rfl rfl) (by simp only [St.put, List.set_cons_succ, List.set_cons_zero]; rfl) ?_
        refine TL.nil ?_
        show TC _ _ _ _ _ _
        refine TC.ret ?_
        exact ⟨.inr rfl, [_], [_], _, rfl, by decide, rfl, by simp [refV, refC, valC], rfl, resV (by simp_all [eq_Ins, eq_Slot, eq_Ctl, eq_Exit, eq_Guest, eqVs, eqV])⟩
    · iterate 5 (refine TL.guardN rfl rfl hg12 (by simp only [St.put, List.set_cons_succ, List.set_cons_zero]; rfl) ?_)
      refine TL.valE rfl (Val.pickF rfl rfl hg12 rfl) (by simp only [St.put, List.set_cons_succ, List.set_cons_zero]; rfl) ?_
      refine TL.valE rfl (Val.move 1 rfl rfl) (by simp only [St.put, List.set_cons_succ, List.set_cons_zero]; rfl) ?_
      iterate 5 (refine TL.guardN rfl rfl rfl (by simp only [St.put, List.set_cons_succ, List.set_cons_zero]; rfl) ?_)
      refine TL.valE rfl (Val.pickF rfl rfl rfl rfl) (by simp only [St.put, List.set_cons_succ, List.set_cons_zero]; rfl) ?_
      refine TL.valE rfl (Val.move 1 rfl rfl) (by simp only [St.put, List.set_cons_succ, List.set_cons_zero]; rfl) ?_
      iterate 5 (refine TL.guardN rfl rfl rfl (by simp only [St.put, List.set_cons_succ, List.set_cons_zero]; rfl) ?_)
      refine TL.valE rfl (Val.pickF rfl rfl rfl rfl) (by simp only [St.put, List.set_cons_succ, List.set_cons_zero]; rfl) ?_
      refine TL.valE rfl (Val.move 1 rfl rfl) (by simp only [St.put, List.set_cons_succ, List.set_cons_zero]; rfl) ?_
      iterate 5 (refine TL.guardN rfl rfl rfl (by simp only [St.put, List.set_cons_succ, List.set_cons_zero]; rfl) ?_)
      refine TL.valE rfl (Val.pickF rfl rfl rfl rfl) (by simp only [St.put, List.set_cons_succ, List.set_cons_zero]; rfl) ?_
      refine TL.valE rfl (Val.move 1 rfl rfl) (by simp only [St.put, List.set_cons_succ, List.set_cons_zero]; rfl) ?_
      iterate 5 (refine TL.guardN rfl rfl rfl (by simp only [St.put, List.set_cons_succ, List.set_cons_zero]; rfl) ?_)
      refine TL.valE rfl (Val.pickF rfl rfl rfl rfl) (by simp only [St.put, List.set_cons_succ, List.set_cons_zero]; rfl) ?_
      refine TL.valE rfl (Val.move 1 rfl rfl) (by simp only [St.put, List.set_cons_succ, List.set_cons_zero]; rfl) ?_
      iterate 5 (refine TL.guardN rfl rfl rfl (by simp only [St.put, List.set_cons_succ, List.set_cons_zero]; rfl) ?_)
      refine TL.valE rfl (Val.pickF rfl rfl rfl rfl) (by simp only [St.put, List.set_cons_succ, List.set_cons_zero]; rfl) ?_
      refine TL.valE rfl (Val.move 1 rfl rfl) (by simp only [St.put, List.set_cons_succ, List.set_cons_zero]; rfl) ?_
      iterate 5 (refine TL.guardN rfl rfl rfl (by simp only [St.put, List.set_cons_succ, List.set_cons_zero]; rfl) ?_)
      refine TL.valE rfl (Val.pickF rfl rfl rfl rfl) (by simp only [St.put, List.set_cons_succ, List.set_cons_zero]; rfl) ?_
      refine TL.valE rfl (Val.move 1 rfl rfl) (by simp only [St.put, List.set_cons_succ, List.set_cons_zero]; rfl) ?_
      iterate 5 (refine TL.guardN rfl rfl rfl (by simp only [St.put, List.set_cons_succ, List.set_cons_zero]; rfl) ?_)
      refine TL.valE rfl (Val.pickF rfl rfl rfl rfl) (by simp only [St.put, List.set_cons_succ, List.set_cons_zero]; rfl) ?_
      refine TL.valE rfl (Val.assign 1 rfl rfl) (by simp only [St.put, List.set_cons_succ, List.set_cons_zero]; rfl) ?_
      refine TL.nil ?_
      show TC _ _ _ _ _ _
      refine TC.ret ?_
      exact ⟨.inr rfl, [_], [_], _, rfl, by decide, rfl, by simp [refV, refC, valC], rfl, resV (by simp_all [eq_Ins, eq_Slot, eq_Ctl, eq_Exit, eq_Guest, eqVs, eqV])⟩
  · iterate 5 (refine TL.guardN rfl rfl hg5 (by simp only [St.put, List.set_cons_succ, List.set_cons_zero]; rfl) ?_)
    refine TL.valE rfl (Val.pickF rfl rfl hg5 rfl) (by simp only [St.put, List.set_cons_succ, List.set_cons_zero]; rfl) ?_
    refine TL.valE rfl (Val.move 1 rfl rfl) (by simp only [St.put, List.set_cons_succ, List.set_cons_zero]; rfl) ?_
    iterate 5 (refine TL.guardN rfl rfl rfl (by simp only [St.put, List.set_cons_succ, List.set_cons_zero]; rfl) ?_)
    refine TL.valE rfl (Val.pickF rfl rfl rfl rfl) (by simp only [St.put, List.set_cons_succ, List.set_cons_zero]; rfl) ?_
    refine TL.valE rfl (Val.move 1 rfl rfl) (by simp only [St.put, List.set_cons_succ, List.set_cons_zero]; rfl) ?_
    iterate 5 (refine TL.guardN rfl rfl rfl (by simp only [St.put, List.set_cons_succ, List.set_cons_zero]; rfl) ?_)
    refine TL.valE rfl (Val.pickF rfl rfl rfl rfl) (by simp only [St.put, List.set_cons_succ, List.set_cons_zero]; rfl) ?_
    refine TL.valE rfl (Val.move 1 rfl rfl) (by simp only [St.put, List.set_cons_succ, List.set_cons_zero]; rfl) ?_
    iterate 5 (refine TL.guardN rfl rfl rfl (by simp only [St.put, List.set_cons_succ, List.set_cons_zero]; rfl) ?_)
    refine TL.valE rfl (Val.pickF rfl rfl rfl rfl) (by simp only [St.put, List.set_cons_succ, List.set_cons_zero]; rfl) ?_
    refine TL.valE rfl (Val.move 1 rfl rfl) (by simp only [St.put, List.set_cons_succ, List.set_cons_zero]; rfl) ?_
    iterate 5 (refine TL.guardN rfl rfl rfl (by simp only [St.put, List.set_cons_succ, List.set_cons_zero]; rfl) ?_)
    refine TL.valE rfl (Val.pickF rfl rfl rfl rfl) (by simp only [St.put, List.set_cons_succ, List.set_cons_zero]; rfl) ?_
    refine TL.valE rfl (Val.move 1 rfl rfl) (by simp only [St.put, List.set_cons_succ, List.set_cons_zero]; rfl) ?_
    iterate 5 (refine TL.guardN rfl rfl rfl (by simp only [St.put, List.set_cons_succ, List.set_cons_zero]; rfl) ?_)
    refine TL.valE rfl (Val.pickF rfl rfl rfl rfl) (by simp only [St.put, List.set_cons_succ, List.set_cons_zero]; rfl) ?_
    refine TL.valE rfl (Val.move 1 rfl rfl) (by simp only [St.put, List.set_cons_succ, List.set_cons_zero]; rfl) ?_
    iterate 5 (refine TL.guardN rfl rfl rfl (by simp only [St.put, List.set_cons_succ, List.set_cons_zero]; rfl) ?_)
    refine TL.valE rfl (Val.pickF rfl rfl rfl rfl) (by simp only [St.put, List.set_cons_succ, List.set_cons_zero]; rfl) ?_
    refine TL.valE rfl (Val.move 1 rfl rfl) (by simp only [St.put, List.set_cons_succ, List.set_cons_zero]; rfl) ?_
    iterate 5 (refine TL.guardN rfl rfl rfl (by simp only [St.put, List.set_cons_succ, List.set_cons_zero]; rfl) ?_)
    refine TL.valE rfl (Val.pickF rfl rfl rfl rfl) (by simp only [St.put, List.set_cons_succ, List.set_cons_zero]; rfl) ?_
    refine TL.valE rfl (Val.move 1 rfl rfl) (by simp only [St.put, List.set_cons_succ, List.set_cons_zero]; rfl) ?_
    iterate 5 (refine TL.guardN rfl rfl rfl (by simp only [St.put, List.set_cons_succ, List.set_cons_zero]; rfl) ?_)
    refine TL.valE rfl (Val.pickF rfl rfl rfl rfl) (by simp only [St.put, List.set_cons_succ, List.set_cons_zero]; rfl) ?_
    refine TL.valE rfl (Val.assign 1 rfl rfl) (by simp only [St.put, List.set_cons_succ, List.set_cons_zero]; rfl) ?_
    refine TL.nil ?_
    show TC _ _ _ _ _ _
    refine TC.ret ?_
    exact ⟨.inr rfl, [_], [_], _, rfl, by decide, rfl, by simp [refV, refC, valC], rfl, resV (by simp_all [eq_Ins, eq_Slot, eq_Ctl, eq_Exit, eq_Guest, eqVs, eqV])⟩
end Go.Proofs.Ytakfcjjmbjagiaa.T

