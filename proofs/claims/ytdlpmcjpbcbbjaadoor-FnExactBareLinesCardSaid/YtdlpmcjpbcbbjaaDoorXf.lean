/- Bare machines taken over by the laws. PRINTED by gen.py out of spec_lines.py. -/
import Derived.Test.YtdlpmcjpbcbbjaaDoorXd
namespace Go.Proofs.YtdlpmcjpbcbbjaaDoor.T
open Go
set_option linter.unusedVariables false
set_option linter.unusedSimpArgs false
set_option maxRecDepth 100000
set_option maxHeartbeats 4000000

-- loop.example/g00975/laws.szIntS: params ['[]int', 'int'] results ['int'] ('arr', [('app', 'Go.ResultVar.tmp', ['4'])])
theorem laws_szIntS_f (xs : List Int) (n : Int) (h1 : 0 ≤ n) (h2 : n ≤ 1048576) : Fun Tryd.prog 53 [L 1 (xs.map dInt), I n] (RV (.int .i64 (szIntS xs n))) := by
  refine Fun.of Tryd.func53 rfl (by simp [Tryd.ntmps53]) fun w g0 => ?_
  simp only [Tryd.ntmps53, List.length_cons, List.length_nil, Nat.reduceAdd, Nat.reduceSub, List.replicate, List.cons_append, List.nil_append]
  refine TC.most (i := 0) rfl rfl fun hm0 => ?_
  simp only [most, List.length_map] at hm0
  refine TC.seq ?_
  -- region 0
  refine TC.region ?_
  refine TL.valE rfl (Val.assign 1 rfl rfl) (by simp only [St.put, List.set_cons_succ, List.set_cons_zero]; rfl) ?_
  refine TL.nil ?_
  show TC _ _ _ _ _ _
  refine TC.seq ?_
  -- region 1
  refine TC.region ?_
  refine TL.valE rfl (Val.move 1 rfl rfl) (by simp only [St.put, List.set_cons_succ, List.set_cons_zero]; rfl) ?_
  refine TL.valE rfl (Val.move 1 rfl rfl) (by simp only [St.put, List.set_cons_succ, List.set_cons_zero]; rfl) ?_
  refine TL.valE rfl (by first | exact Val.len rfl rfl rfl rfl | exact Val.lenS rfl rfl rfl) (by simp only [St.put, List.set_cons_succ, List.set_cons_zero]; rfl) ?_
  refine TL.valE rfl (Val.sub rfl rfl rfl (by first | omega | (simp only [List.length_map]; omega)) (by first | omega | (simp only [List.length_map]; omega))) (by simp only [St.put, List.set_cons_succ, List.set_cons_zero]; rfl) ?_
  refine TL.valE rfl (Val.assign 1 rfl rfl) (by simp only [St.put, List.set_cons_succ, List.set_cons_zero]; rfl) ?_
  refine TL.nil ?_
  show TC _ _ _ _ _ _
  refine TC.seq ?_
  refine TC.seq ?_
  -- region 2
  refine TC.region ?_
  refine TL.valE rfl (Val.move 1 rfl rfl) (by simp only [St.put, List.set_cons_succ, List.set_cons_zero]; rfl) ?_
  refine TL.valE rfl (Val.lss rfl rfl rfl) (by simp only [St.put, List.set_cons_succ, List.set_cons_zero]; rfl) ?_
  refine TL.nil ?_
  show TC _ _ _ _ _ _
  refine TC.cond rfl (fun hb => ?_) (fun hb => ?_)
  · refine TC.seq ?_
    -- region 3
    refine TC.region ?_
    refine TL.valE rfl (Val.assign 1 rfl rfl) (by simp only [St.put, List.set_cons_succ, List.set_cons_zero]; rfl) ?_
    refine TL.nil ?_
    show TC _ _ _ _ _ _
    refine TC.ret ?_
    exact ⟨.inr rfl, [_], [_], _, rfl, by decide, rfl, by simp [refV, refC, valC], rfl, resV (by simp at hb; unfold szIntS; rw [if_pos (by omega)])⟩
  · refine TC.skip ?_
    show TC _ _ _ _ _ _
    refine TC.seq ?_
    -- region 4
    refine TC.region ?_
    refine TL.valE rfl (Val.move 1 rfl rfl) (by simp only [St.put, List.set_cons_succ, List.set_cons_zero]; rfl) ?_
    refine TL.valE rfl (Val.assign 1 rfl rfl) (by simp only [St.put, List.set_cons_succ, List.set_cons_zero]; rfl) ?_
    refine TL.nil ?_
    show TC _ _ _ _ _ _
    refine TC.ret ?_
    exact ⟨.inr rfl, [_], [_], _, rfl, by decide, rfl, by simp [refV, refC, valC], rfl, resV (by simp at hb; unfold szIntS; rw [if_neg (by omega)]; simp)⟩

-- loop.example/g00975/laws.szIntSS: params ['[][]int', 'int'] results ['int'] ('arr', [('app', 'Go.ResultVar.tmp', ['4'])])
theorem laws_szIntSS_f (xs : List (List Int)) (n : Int) (h1 : 0 ≤ n) (h2 : n ≤ 1048576) : Fun Tryd.prog 51 [L 1 (xs.map dIntS), I n] (RV (.int .i64 (szIntSS xs n))) := by
  refine Fun.of Tryd.func51 rfl (by simp [Tryd.ntmps51]) fun w g0 => ?_
  simp only [Tryd.ntmps51, List.length_cons, List.length_nil, Nat.reduceAdd, Nat.reduceSub, List.replicate, List.cons_append, List.nil_append]
  refine TC.most (i := 0) rfl rfl fun hm0 => ?_
  simp only [most, List.length_map] at hm0
  refine TC.seq ?_
  -- region 0
  refine TC.region ?_
  refine TL.valE rfl (Val.assign 1 rfl rfl) (by simp only [St.put, List.set_cons_succ, List.set_cons_zero]; rfl) ?_
  refine TL.nil ?_
  show TC _ _ _ _ _ _
  refine TC.seq ?_
  -- region 1
  refine TC.region ?_
  refine TL.valE rfl (Val.move 1 rfl rfl) (by simp only [St.put, List.set_cons_succ, List.set_cons_zero]; rfl) ?_
  refine TL.valE rfl (Val.move 1 rfl rfl) (by simp only [St.put, List.set_cons_succ, List.set_cons_zero]; rfl) ?_
  refine TL.valE rfl (by first | exact Val.len rfl rfl rfl rfl | exact Val.lenS rfl rfl rfl) (by simp only [St.put, List.set_cons_succ, List.set_cons_zero]; rfl) ?_
  refine TL.valE rfl (Val.sub rfl rfl rfl (by first | omega | (simp only [List.length_map]; omega)) (by first | omega | (simp only [List.length_map]; omega))) (by simp only [St.put, List.set_cons_succ, List.set_cons_zero]; rfl) ?_
  refine TL.valE rfl (Val.assign 1 rfl rfl) (by simp only [St.put, List.set_cons_succ, List.set_cons_zero]; rfl) ?_
  refine TL.nil ?_
  show TC _ _ _ _ _ _
  refine TC.seq ?_
  refine TC.seq ?_
  -- region 2
  refine TC.region ?_
  refine TL.valE rfl (Val.move 1 rfl rfl) (by simp only [St.put, List.set_cons_succ, List.set_cons_zero]; rfl) ?_
  refine TL.valE rfl (Val.lss rfl rfl rfl) (by simp only [St.put, List.set_cons_succ, List.set_cons_zero]; rfl) ?_
  refine TL.nil ?_
  show TC _ _ _ _ _ _
  refine TC.cond rfl (fun hb => ?_) (fun hb => ?_)
  · refine TC.seq ?_
    -- region 3
    refine TC.region ?_
    refine TL.valE rfl (Val.assign 1 rfl rfl) (by simp only [St.put, List.set_cons_succ, List.set_cons_zero]; rfl) ?_
    refine TL.nil ?_
    show TC _ _ _ _ _ _
    refine TC.ret ?_
    exact ⟨.inr rfl, [_], [_], _, rfl, by decide, rfl, by simp [refV, refC, valC], rfl, resV (by simp at hb; unfold szIntSS; rw [if_pos (by omega)])⟩
  · refine TC.skip ?_
    show TC _ _ _ _ _ _
    refine TC.seq ?_
    refine TC.seq ?_
    -- region 4
    refine TC.region ?_
    refine TL.valE rfl (Val.assign 1 rfl rfl) (by simp only [St.put, List.set_cons_succ, List.set_cons_zero]; rfl) ?_
    refine TL.nil ?_
    show TC _ _ _ _ _ _
    refine TC.block ?_
    refine TC.loop (fun μ st => ∃ (k : Nat) (m : Int), (k ≤ xs.length ∧ 0 ≤ m ∧ m ≤ n ∧ szIntSS xs n = szFold szIntS (xs.drop k) m) ∧ μ = xs.length - k ∧ Can st ⟨[L 1 (xs.map dIntS), I m, .one .dead, .one .dead, .one .dead, I k, .one .dead, .one .dead, .one .dead, .one .dead, .one .dead, .one .dead, .one .dead, .one .dead, .one .dead, .one .dead, .one .dead, .one .dead, .one .dead, .one .dead, .one .dead, .one .dead, .one .dead, .one .dead, .one .dead, .one .dead, .one .dead], []⟩) (xs.length) ?_ fun μ st hI => ?_
    · refine ⟨0, n - xs.length, (by simp at hb; refine ⟨by omega, by omega, by omega, ?_⟩; unfold szIntSS; rw [if_neg (by omega), List.drop_zero]), by simp, ?_⟩
      exact Can.to (by repeat first | exact LessT.nil | refine LessT.drop ?_ | refine LessT.keep ?_ | refine LessT.eq (by simp) ?_) (by repeat first | exact .nil | refine .cons rfl rfl ?_)
    · obtain ⟨k, m, hyp, rfl, hcan⟩ := hI
      refine TC.can hcan ?_
      clear hcan
      refine TC.seq ?_
      refine TC.seq ?_
      -- region 5
      refine TC.region ?_
      refine TL.valE rfl (Val.move 1 rfl rfl) (by simp only [St.put, List.set_cons_succ, List.set_cons_zero]; rfl) ?_
      refine TL.valE rfl (Val.move 1 rfl rfl) (by simp only [St.put, List.set_cons_succ, List.set_cons_zero]; rfl) ?_
      refine TL.valE rfl (by first | exact Val.len rfl rfl rfl rfl | exact Val.lenS rfl rfl rfl) (by simp only [St.put, List.set_cons_succ, List.set_cons_zero]; rfl) ?_
      refine TL.valE rfl (Val.lss rfl rfl rfl) (by simp only [St.put, List.set_cons_succ, List.set_cons_zero]; rfl) ?_
      refine TL.nil ?_
      show TC _ _ _ _ _ _
      refine TC.cond rfl (fun hb => ?_) (fun hb => ?_)
      · refine TC.skip ?_
        show TC _ _ _ _ _ _
        refine TC.seq ?_
        refine TC.block ?_
        refine TC.seq ?_
        have hk : k < xs.length := by simpa using hb
        obtain ⟨x, hx⟩ := at_of (xs := xs) (k := k) hk
        have hs := szFold_drop (f := szIntS) hx m
        -- region 7
        refine TC.region ?_
        refine TL.valE rfl (Val.move 1 rfl rfl) (by simp only [St.put, List.set_cons_succ, List.set_cons_zero]; rfl) ?_
        refine TL.valE rfl (Val.move 1 rfl rfl) (by simp only [St.put, List.set_cons_succ, List.set_cons_zero]; rfl) ?_
        refine TL.valE rfl (by exact Val.indexC (d := dIntS x) rfl rfl rfl rfl rfl (by omega) (by simp [hx])) (by simp only [St.put, List.set_cons_succ, List.set_cons_zero]; rfl) ?_
        refine TL.valE rfl (by first | exact Val.load rfl rfl rfl rfl rfl | exact Val.loadC rfl rfl rfl) (by simp only [St.put, List.set_cons_succ, List.set_cons_zero, valC]; rfl) ?_
        refine TL.valE rfl (Val.move 1 rfl rfl) (by simp only [St.put, List.set_cons_succ, List.set_cons_zero]; rfl) ?_
        refine TL.callF (yes_none rfl) rfl rfl rfl rfl rfl rfl ((laws_szIntS_f x m hyp.2.1 (by omega)).k) (by repeat first | exact .nil | refine Snaps.cons (.ro _) ?_ | refine Snaps.cons (.aggRo rfl) ?_ | refine Snaps.cons (.cptr _) ?_ | refine Snaps.cons (.fn _) ?_ | refine Snaps.cons (.ownRef rfl (by first | assumption | exact w_IntS _ | exact w_IntSS _ | exact w_InsS _ | exact w_SlotS _ | exact w_GuestS _ | exact whole_map _ _ (fun w c hc => by simp only [D.row, List.mem_cons, List.not_mem_nil, or_false] at hc; subst hc; exact .v _))) ?_ | refine Snaps.cons (.aggR (by repeat first | exact .nil | refine SnapCs.cons (.ro _) ?_ | refine SnapCs.cons (.ref rfl (by first | assumption | exact w_IntS _ | exact w_IntSS _ | exact w_InsS _ | exact w_SlotS _ | exact w_GuestS _ | exact whole_map _ _ (fun w c hc => by simp only [D.row, List.mem_cons, List.not_mem_nil, or_false] at hc; subst hc; exact .v _))) ?_)) ?_) rfl (by simp only [St.put, List.set_cons_succ, List.set_cons_zero]; rfl) ?_
        refine TL.valE rfl (Val.assign 1 rfl rfl) (by simp only [St.put, List.set_cons_succ, List.set_cons_zero]; rfl) ?_
        refine TL.nil ?_
        show TC _ _ _ _ _ _
        refine TC.seq ?_
        have hz := (szIntS_ok x m)
        -- region 8
        refine TC.region ?_
        refine TL.valE rfl (Val.move 1 rfl rfl) (by simp only [St.put, List.set_cons_succ, List.set_cons_zero]; rfl) ?_
        refine TL.valE rfl (Val.lss rfl rfl rfl) (by simp only [St.put, List.set_cons_succ, List.set_cons_zero]; rfl) ?_
        refine TL.nil ?_
        show TC _ _ _ _ _ _
        refine TC.cond rfl (fun hb => ?_) (fun hb => ?_)
        · refine TC.seq ?_
          -- region 9
          refine TC.region ?_
          refine TL.valE rfl (Val.assign 1 rfl rfl) (by simp only [St.put, List.set_cons_succ, List.set_cons_zero]; rfl) ?_
          refine TL.nil ?_
          show TC _ _ _ _ _ _
          refine TC.ret ?_
          exact ⟨.inr rfl, [_], [_], _, rfl, by decide, rfl, by simp [refV, refC, valC], rfl, resV (by simp at hb; rw [hyp.2.2.2, hs, if_pos hb])⟩
        · refine TC.skip ?_
          show TC _ _ _ _ _ _
          -- region 6
          refine TC.region ?_
          refine TL.valE rfl (Val.move 1 rfl rfl) (by simp only [St.put, List.set_cons_succ, List.set_cons_zero]; rfl) ?_
          refine TL.valE rfl (Val.add rfl rfl rfl (by first | omega | (simp only [List.length_map]; omega)) (by first | omega | (simp only [List.length_map]; omega))) (by simp only [St.put, List.set_cons_succ, List.set_cons_zero]; rfl) ?_
          refine TL.valE rfl (Val.assign 1 rfl rfl) (by simp only [St.put, List.set_cons_succ, List.set_cons_zero]; rfl) ?_
          refine TL.nil ?_
          first | refine Seq.normal ⟨_, ?_, k + 1, szIntS x m, ?_, rfl, ?_⟩ | refine Seq.normal (Q := fun _ _ => True) ⟨_, ?_, k + 1, szIntS x m, ?_, rfl, ?_⟩
          · omega
          · (simp at hb; have hz := hz (by omega); refine ⟨by omega, by omega, by omega, ?_⟩; rw [hyp.2.2.2, hs, if_neg (by omega)])
          · exact Can.to (by repeat first | exact LessT.nil | refine LessT.drop ?_ | refine LessT.keep ?_ | refine LessT.eq (by simp) ?_) (by repeat first | exact .nil | refine .cons rfl rfl ?_)
      · refine TC.exit ?_
        -- exit 0
        show TC _ _ _ _ _ _
        refine TC.seq ?_
        -- region 10
        refine TC.region ?_
        refine TL.valE rfl (Val.move 1 rfl rfl) (by simp only [St.put, List.set_cons_succ, List.set_cons_zero]; rfl) ?_
        refine TL.valE rfl (Val.assign 1 rfl rfl) (by simp only [St.put, List.set_cons_succ, List.set_cons_zero]; rfl) ?_
        refine TL.nil ?_
        show TC _ _ _ _ _ _
        refine TC.ret ?_
        exact ⟨.inr rfl, [_], [_], _, rfl, by decide, rfl, by simp [refV, refC, valC], rfl, resV (by simp at hb; rw [hyp.2.2.2, List.drop_eq_nil_of_le hb]; rfl)⟩

-- loop.example/g00975/laws.szInsS: params ['[]laws.Ins', 'int'] results ['int'] ('arr', [('app', 'Go.ResultVar.tmp', ['4'])])
theorem laws_szInsS_f (xs : List VIns) (n : Int) (h1 : 0 ≤ n) (h2 : n ≤ 1048576) : Fun Tryd.prog 126 [L 2 (xs.map dIns), I n] (RV (.int .i64 (szInsS xs n))) := by
  refine Fun.of Tryd.func126 rfl (by simp [Tryd.ntmps126]) fun w g0 => ?_
  simp only [Tryd.ntmps126, List.length_cons, List.length_nil, Nat.reduceAdd, Nat.reduceSub, List.replicate, List.cons_append, List.nil_append]
  refine TC.most (i := 0) rfl rfl fun hm0 => ?_
  simp only [most, List.length_map] at hm0
  refine TC.seq ?_
  -- region 0
  refine TC.region ?_
  refine TL.valE rfl (Val.assign 1 rfl rfl) (by simp only [St.put, List.set_cons_succ, List.set_cons_zero]; rfl) ?_
  refine TL.nil ?_
  show TC _ _ _ _ _ _
  refine TC.seq ?_
  -- region 1
  refine TC.region ?_
  refine TL.valE rfl (Val.move 1 rfl rfl) (by simp only [St.put, List.set_cons_succ, List.set_cons_zero]; rfl) ?_
  refine TL.valE rfl (Val.move 1 rfl rfl) (by simp only [St.put, List.set_cons_succ, List.set_cons_zero]; rfl) ?_
  refine TL.valE rfl (by first | exact Val.len rfl rfl rfl rfl | exact Val.lenS rfl rfl rfl) (by simp only [St.put, List.set_cons_succ, List.set_cons_zero]; rfl) ?_
  refine TL.valE rfl (Val.sub rfl rfl rfl (by first | omega | (simp only [List.length_map]; omega)) (by first | omega | (simp only [List.length_map]; omega))) (by simp only [St.put, List.set_cons_succ, List.set_cons_zero]; rfl) ?_
  refine TL.valE rfl (Val.assign 1 rfl rfl) (by simp only [St.put, List.set_cons_succ, List.set_cons_zero]; rfl) ?_
  refine TL.nil ?_
  show TC _ _ _ _ _ _
  refine TC.seq ?_
  refine TC.seq ?_
  -- region 2
  refine TC.region ?_
  refine TL.valE rfl (Val.move 1 rfl rfl) (by simp only [St.put, List.set_cons_succ, List.set_cons_zero]; rfl) ?_
  refine TL.valE rfl (Val.lss rfl rfl rfl) (by simp only [St.put, List.set_cons_succ, List.set_cons_zero]; rfl) ?_
  refine TL.nil ?_
  show TC _ _ _ _ _ _
  refine TC.cond rfl (fun hb => ?_) (fun hb => ?_)
  · refine TC.seq ?_
    -- region 3
    refine TC.region ?_
    refine TL.valE rfl (Val.assign 1 rfl rfl) (by simp only [St.put, List.set_cons_succ, List.set_cons_zero]; rfl) ?_
    refine TL.nil ?_
    show TC _ _ _ _ _ _
    refine TC.ret ?_
    exact ⟨.inr rfl, [_], [_], _, rfl, by decide, rfl, by simp [refV, refC, valC], rfl, resV (by simp at hb; unfold szInsS; rw [if_pos (by omega)])⟩
  · refine TC.skip ?_
    show TC _ _ _ _ _ _
    refine TC.seq ?_
    -- region 4
    refine TC.region ?_
    refine TL.valE rfl (Val.move 1 rfl rfl) (by simp only [St.put, List.set_cons_succ, List.set_cons_zero]; rfl) ?_
    refine TL.valE rfl (Val.assign 1 rfl rfl) (by simp only [St.put, List.set_cons_succ, List.set_cons_zero]; rfl) ?_
    refine TL.nil ?_
    show TC _ _ _ _ _ _
    refine TC.ret ?_
    exact ⟨.inr rfl, [_], [_], _, rfl, by decide, rfl, by simp [refV, refC, valC], rfl, resV (by simp at hb; unfold szInsS; rw [if_neg (by omega)]; simp)⟩

-- loop.example/g00975/laws.szSlotS: params ['[]laws.Slot', 'int'] results ['int'] ('arr', [('app', 'Go.ResultVar.tmp', ['4'])])
theorem laws_szSlotS_f (xs : List VSlot) (n : Int) (h1 : 0 ≤ n) (h2 : n ≤ 1048576) : Fun Tryd.prog 127 [L 2 (xs.map dSlot), I n] (RV (.int .i64 (szSlotS xs n))) := by
  refine Fun.of Tryd.func127 rfl (by simp [Tryd.ntmps127]) fun w g0 => ?_
  simp only [Tryd.ntmps127, List.length_cons, List.length_nil, Nat.reduceAdd, Nat.reduceSub, List.replicate, List.cons_append, List.nil_append]
  refine TC.most (i := 0) rfl rfl fun hm0 => ?_
  simp only [most, List.length_map] at hm0
  refine TC.seq ?_
  -- region 0
  refine TC.region ?_
  refine TL.valE rfl (Val.assign 1 rfl rfl) (by simp only [St.put, List.set_cons_succ, List.set_cons_zero]; rfl) ?_
  refine TL.nil ?_
  show TC _ _ _ _ _ _
  refine TC.seq ?_
  -- region 1
  refine TC.region ?_
  refine TL.valE rfl (Val.move 1 rfl rfl) (by simp only [St.put, List.set_cons_succ, List.set_cons_zero]; rfl) ?_
  refine TL.valE rfl (Val.move 1 rfl rfl) (by simp only [St.put, List.set_cons_succ, List.set_cons_zero]; rfl) ?_
  refine TL.valE rfl (by first | exact Val.len rfl rfl rfl rfl | exact Val.lenS rfl rfl rfl) (by simp only [St.put, List.set_cons_succ, List.set_cons_zero]; rfl) ?_
  refine TL.valE rfl (Val.sub rfl rfl rfl (by first | omega | (simp only [List.length_map]; omega)) (by first | omega | (simp only [List.length_map]; omega))) (by simp only [St.put, List.set_cons_succ, List.set_cons_zero]; rfl) ?_
  refine TL.valE rfl (Val.assign 1 rfl rfl) (by simp only [St.put, List.set_cons_succ, List.set_cons_zero]; rfl) ?_
  refine TL.nil ?_
  show TC _ _ _ _ _ _
  refine TC.seq ?_
  refine TC.seq ?_
  -- region 2
  refine TC.region ?_
  refine TL.valE rfl (Val.move 1 rfl rfl) (by simp only [St.put, List.set_cons_succ, List.set_cons_zero]; rfl) ?_
  refine TL.valE rfl (Val.lss rfl rfl rfl) (by simp only [St.put, List.set_cons_succ, List.set_cons_zero]; rfl) ?_
  refine TL.nil ?_
  show TC _ _ _ _ _ _
  refine TC.cond rfl (fun hb => ?_) (fun hb => ?_)
  · refine TC.seq ?_
    -- region 3
    refine TC.region ?_
    refine TL.valE rfl (Val.assign 1 rfl rfl) (by simp only [St.put, List.set_cons_succ, List.set_cons_zero]; rfl) ?_
    refine TL.nil ?_
    show TC _ _ _ _ _ _
    refine TC.ret ?_
    exact ⟨.inr rfl, [_], [_], _, rfl, by decide, rfl, by simp [refV, refC, valC], rfl, resV (by simp at hb; unfold szSlotS; rw [if_pos (by omega)])⟩
  · refine TC.skip ?_
    show TC _ _ _ _ _ _
    refine TC.seq ?_
    -- region 4
    refine TC.region ?_
    refine TL.valE rfl (Val.move 1 rfl rfl) (by simp only [St.put, List.set_cons_succ, List.set_cons_zero]; rfl) ?_
    refine TL.valE rfl (Val.assign 1 rfl rfl) (by simp only [St.put, List.set_cons_succ, List.set_cons_zero]; rfl) ?_
    refine TL.nil ?_
    show TC _ _ _ _ _ _
    refine TC.ret ?_
    exact ⟨.inr rfl, [_], [_], _, rfl, by decide, rfl, by simp [refV, refC, valC], rfl, resV (by simp at hb; unfold szSlotS; rw [if_neg (by omega)]; simp)⟩

-- loop.example/g00975/laws.szGuest: params ['laws.Guest = loop.example/g00975/laws.Guest', 'int'] results ['int'] ('arr', [('app', 'Go.ResultVar.tmp', ['4'])])
theorem laws_szGuest_f (x : VGuest) (n : Int) (h1 : 0 ≤ n) (h2 : n ≤ 1048576) : Fun Tryd.prog 98 [A (rGuest x), I n] (RV (.int .i64 (szGuest x n))) := by
  refine Fun.of Tryd.func98 rfl (by simp [Tryd.ntmps98]) fun w g0 => ?_
  simp only [Tryd.ntmps98, List.length_cons, List.length_nil, Nat.reduceAdd, Nat.reduceSub, List.replicate, List.cons_append, List.nil_append]
  refine TC.seq ?_
  -- region 0
  refine TC.region ?_
  refine TL.opK rfl fun K hK => ?_
  first | refine OpT.box rfl rfl (z := 1) rfl (by simp) ?_ | refine OpT.boxAgg rfl rfl rfl ?_ -- 2
  simp only [St.fresh, St.kill, St.setRoot, St.put, St.renew, TS.kill, TV.kill, C.kill, Rt.kill, boxC, List.map_cons, List.map_nil, List.filter_cons, List.filter_nil, List.set_cons_succ, List.set_cons_zero, List.contains_cons, List.contains_nil, Nat.reduceBEq, Nat.reduceBNe, St.wrote, hitR, hitP, shapeOf, List.isPrefixOf, List.append_eq, Bool.and_true, Bool.true_and, Bool.and_false, Bool.false_and, List.nil_append, List.cons_append, beq_self_eq_true, bne_self_eq_false, Bool.or_false, Bool.or_true, Bool.not_true, Bool.not_false, Bool.false_eq_true, if_true, if_false, reduceIte, resT, valsD, refsD, refD, nextD, nextsD, cellsD, isSl, List.append_nil]
  refine hK _ ?_
  clear hK K
  refine TL.valE rfl (Val.assign 1 rfl rfl) (by simp only [St.put, List.set_cons_succ, List.set_cons_zero]; rfl) ?_
  refine TL.nil ?_
  show TC _ _ _ _ _ _
  refine TC.seq ?_
  -- region 1
  refine TC.region ?_
  refine TL.valE rfl (by first | exact Val.field rfl rfl rfl | exact Val.fieldC rfl rfl rfl) (by simp only [St.put, List.set_cons_succ, List.set_cons_zero, List.getElem_toArray, List.getElem_cons_succ, List.getElem_cons_zero, Nat.zero_add, Nat.reduceAdd]; rfl) ?_
  refine TL.valE rfl (by first | exact Val.load rfl rfl rfl rfl rfl | exact Val.loadC rfl rfl rfl) (by simp only [St.put, List.set_cons_succ, List.set_cons_zero, valC]; rfl) ?_
  refine TL.valE rfl (Val.move 1 rfl rfl) (by simp only [St.put, List.set_cons_succ, List.set_cons_zero]; rfl) ?_
  refine TL.callF (yes_none rfl) rfl rfl rfl rfl rfl rfl ((laws_szInsS_f x.Prog (n) (by (try simp at *); omega) (by (try simp at *); omega)).k) (by repeat first | exact .nil | refine Snaps.cons (.ro _) ?_ | refine Snaps.cons (.aggRo rfl) ?_ | refine Snaps.cons (.cptr _) ?_ | refine Snaps.cons (.fn _) ?_ | refine Snaps.cons (.ownRef rfl (by first | assumption | exact w_IntS _ | exact w_IntSS _ | exact w_InsS _ | exact w_SlotS _ | exact w_GuestS _ | exact whole_map _ _ (fun w c hc => by simp only [D.row, List.mem_cons, List.not_mem_nil, or_false] at hc; subst hc; exact .v _))) ?_ | refine Snaps.cons (.aggR (by repeat first | exact .nil | refine SnapCs.cons (.ro _) ?_ | refine SnapCs.cons (.ref rfl (by first | assumption | exact w_IntS _ | exact w_IntSS _ | exact w_InsS _ | exact w_SlotS _ | exact w_GuestS _ | exact whole_map _ _ (fun w c hc => by simp only [D.row, List.mem_cons, List.not_mem_nil, or_false] at hc; subst hc; exact .v _))) ?_)) ?_) rfl (by simp only [St.put, List.set_cons_succ, List.set_cons_zero]; rfl) ?_
  refine TL.valE rfl (Val.assign 1 rfl rfl) (by simp only [St.put, List.set_cons_succ, List.set_cons_zero]; rfl) ?_
  refine TL.nil ?_
  show TC _ _ _ _ _ _
  refine TC.seq ?_
  refine TC.seq ?_
  -- region 2
  refine TC.region ?_
  refine TL.valE rfl (Val.move 1 rfl rfl) (by simp only [St.put, List.set_cons_succ, List.set_cons_zero]; rfl) ?_
  refine TL.valE rfl (Val.lss rfl rfl rfl) (by simp only [St.put, List.set_cons_succ, List.set_cons_zero]; rfl) ?_
  refine TL.nil ?_
  show TC _ _ _ _ _ _
  refine TC.cond rfl (fun hb => ?_) (fun hb => ?_)
  · refine TC.seq ?_
    -- region 3
    refine TC.region ?_
    refine TL.valE rfl (Val.assign 1 rfl rfl) (by simp only [St.put, List.set_cons_succ, List.set_cons_zero]; rfl) ?_
    refine TL.nil ?_
    show TC _ _ _ _ _ _
    refine TC.ret ?_
    exact ⟨.inr rfl, [_], [_], _, rfl, by decide, rfl, by simp [refV, refC, valC], rfl, resV (by simp at *; simp [szGuest, szThen, *]; try omega)⟩
  · refine TC.skip ?_
    show TC _ _ _ _ _ _
    refine TC.seq ?_
    -- region 4
    refine TC.region ?_
    refine TL.valE rfl (by first | exact Val.field rfl rfl rfl | exact Val.fieldC rfl rfl rfl) (by simp only [St.put, List.set_cons_succ, List.set_cons_zero, List.getElem_toArray, List.getElem_cons_succ, List.getElem_cons_zero, Nat.zero_add, Nat.reduceAdd]; rfl) ?_
    refine TL.valE rfl (by first | exact Val.load rfl rfl rfl rfl rfl | exact Val.loadC rfl rfl rfl) (by simp only [St.put, List.set_cons_succ, List.set_cons_zero, valC]; rfl) ?_
    refine TL.valE rfl (Val.move 1 rfl rfl) (by simp only [St.put, List.set_cons_succ, List.set_cons_zero]; rfl) ?_
    refine TL.callF (yes_none rfl) rfl rfl rfl rfl rfl rfl ((laws_szSlotS_f x.Written (szInsS x.Prog (n)) (by (try simp at *); have e0 := szInsS_le x.Prog (n) (by omega); omega) (by (try simp at *); have e0 := szInsS_le x.Prog (n) (by omega); omega)).k) (by repeat first | exact .nil | refine Snaps.cons (.ro _) ?_ | refine Snaps.cons (.aggRo rfl) ?_ | refine Snaps.cons (.cptr _) ?_ | refine Snaps.cons (.fn _) ?_ | refine Snaps.cons (.ownRef rfl (by first | assumption | exact w_IntS _ | exact w_IntSS _ | exact w_InsS _ | exact w_SlotS _ | exact w_GuestS _ | exact whole_map _ _ (fun w c hc => by simp only [D.row, List.mem_cons, List.not_mem_nil, or_false] at hc; subst hc; exact .v _))) ?_ | refine Snaps.cons (.aggR (by repeat first | exact .nil | refine SnapCs.cons (.ro _) ?_ | refine SnapCs.cons (.ref rfl (by first | assumption | exact w_IntS _ | exact w_IntSS _ | exact w_InsS _ | exact w_SlotS _ | exact w_GuestS _ | exact whole_map _ _ (fun w c hc => by simp only [D.row, List.mem_cons, List.not_mem_nil, or_false] at hc; subst hc; exact .v _))) ?_)) ?_) rfl (by simp only [St.put, List.set_cons_succ, List.set_cons_zero]; rfl) ?_
    refine TL.valE rfl (Val.assign 1 rfl rfl) (by simp only [St.put, List.set_cons_succ, List.set_cons_zero]; rfl) ?_
    refine TL.nil ?_
    show TC _ _ _ _ _ _
    refine TC.seq ?_
    refine TC.seq ?_
    -- region 5
    refine TC.region ?_
    refine TL.valE rfl (Val.move 1 rfl rfl) (by simp only [St.put, List.set_cons_succ, List.set_cons_zero]; rfl) ?_
    refine TL.valE rfl (Val.lss rfl rfl rfl) (by simp only [St.put, List.set_cons_succ, List.set_cons_zero]; rfl) ?_
    refine TL.nil ?_
    show TC _ _ _ _ _ _
    refine TC.cond rfl (fun hb => ?_) (fun hb => ?_)
    · refine TC.seq ?_
      -- region 6
      refine TC.region ?_
      refine TL.valE rfl (Val.assign 1 rfl rfl) (by simp only [St.put, List.set_cons_succ, List.set_cons_zero]; rfl) ?_
      refine TL.nil ?_
      show TC _ _ _ _ _ _
      refine TC.ret ?_
      exact ⟨.inr rfl, [_], [_], _, rfl, by decide, rfl, by simp [refV, refC, valC], rfl, resV (by simp at *; simp [szGuest, szThen, *]; try omega)⟩
    · refine TC.skip ?_
      show TC _ _ _ _ _ _
      refine TC.seq ?_
      -- region 7
      refine TC.region ?_
      refine TL.valE rfl (by first | exact Val.field rfl rfl rfl | exact Val.fieldC rfl rfl rfl) (by simp only [St.put, List.set_cons_succ, List.set_cons_zero, List.getElem_toArray, List.getElem_cons_succ, List.getElem_cons_zero, Nat.zero_add, Nat.reduceAdd]; rfl) ?_
      refine TL.valE rfl (by first | exact Val.load rfl rfl rfl rfl rfl | exact Val.loadC rfl rfl rfl) (by simp only [St.put, List.set_cons_succ, List.set_cons_zero, valC]; rfl) ?_
      refine TL.valE rfl (Val.move 1 rfl rfl) (by simp only [St.put, List.set_cons_succ, List.set_cons_zero]; rfl) ?_
      refine TL.callF (yes_none rfl) rfl rfl rfl rfl rfl rfl ((laws_szSlotS_f x.Live (szSlotS x.Written (szInsS x.Prog (n))) (by (try simp at *); have e0 := szInsS_le x.Prog (n) (by omega); have e1 := szSlotS_le x.Written (szInsS x.Prog (n)) (by omega); omega) (by (try simp at *); have e0 := szInsS_le x.Prog (n) (by omega); have e1 := szSlotS_le x.Written (szInsS x.Prog (n)) (by omega); omega)).k) (by repeat first | exact .nil | refine Snaps.cons (.ro _) ?_ | refine Snaps.cons (.aggRo rfl) ?_ | refine Snaps.cons (.cptr _) ?_ | refine Snaps.cons (.fn _) ?_ | refine Snaps.cons (.ownRef rfl (by first | assumption | exact w_IntS _ | exact w_IntSS _ | exact w_InsS _ | exact w_SlotS _ | exact w_GuestS _ | exact whole_map _ _ (fun w c hc => by simp only [D.row, List.mem_cons, List.not_mem_nil, or_false] at hc; subst hc; exact .v _))) ?_ | refine Snaps.cons (.aggR (by repeat first | exact .nil | refine SnapCs.cons (.ro _) ?_ | refine SnapCs.cons (.ref rfl (by first | assumption | exact w_IntS _ | exact w_IntSS _ | exact w_InsS _ | exact w_SlotS _ | exact w_GuestS _ | exact whole_map _ _ (fun w c hc => by simp only [D.row, List.mem_cons, List.not_mem_nil, or_false] at hc; subst hc; exact .v _))) ?_)) ?_) rfl (by simp only [St.put, List.set_cons_succ, List.set_cons_zero]; rfl) ?_
      refine TL.valE rfl (Val.assign 1 rfl rfl) (by simp only [St.put, List.set_cons_succ, List.set_cons_zero]; rfl) ?_
      refine TL.nil ?_
      show TC _ _ _ _ _ _
      refine TC.seq ?_
      refine TC.seq ?_
      -- region 8
      refine TC.region ?_
      refine TL.valE rfl (Val.move 1 rfl rfl) (by simp only [St.put, List.set_cons_succ, List.set_cons_zero]; rfl) ?_
      refine TL.valE rfl (Val.lss rfl rfl rfl) (by simp only [St.put, List.set_cons_succ, List.set_cons_zero]; rfl) ?_
      refine TL.nil ?_
      show TC _ _ _ _ _ _
      refine TC.cond rfl (fun hb => ?_) (fun hb => ?_)
      · refine TC.seq ?_
        -- region 9
        refine TC.region ?_
        refine TL.valE rfl (Val.assign 1 rfl rfl) (by simp only [St.put, List.set_cons_succ, List.set_cons_zero]; rfl) ?_
        refine TL.nil ?_
        show TC _ _ _ _ _ _
        refine TC.ret ?_
        exact ⟨.inr rfl, [_], [_], _, rfl, by decide, rfl, by simp [refV, refC, valC], rfl, resV (by simp at *; simp [szGuest, szThen, *]; try omega)⟩
      · refine TC.skip ?_
        show TC _ _ _ _ _ _
        refine TC.seq ?_
        -- region 10
        refine TC.region ?_
        refine TL.valE rfl (by first | exact Val.field rfl rfl rfl | exact Val.fieldC rfl rfl rfl) (by simp only [St.put, List.set_cons_succ, List.set_cons_zero, List.getElem_toArray, List.getElem_cons_succ, List.getElem_cons_zero, Nat.zero_add, Nat.reduceAdd]; rfl) ?_
        refine TL.valE rfl (by first | exact Val.load rfl rfl rfl rfl rfl | exact Val.loadC rfl rfl rfl) (by simp only [St.put, List.set_cons_succ, List.set_cons_zero, valC]; rfl) ?_
        refine TL.valE rfl (Val.move 1 rfl rfl) (by simp only [St.put, List.set_cons_succ, List.set_cons_zero]; rfl) ?_
        refine TL.callF (yes_none rfl) rfl rfl rfl rfl rfl rfl ((laws_szIntS_f x.Seen (szSlotS x.Live (szSlotS x.Written (szInsS x.Prog (n)))) (by (try simp at *); have e0 := szInsS_le x.Prog (n) (by omega); have e1 := szSlotS_le x.Written (szInsS x.Prog (n)) (by omega); have e2 := szSlotS_le x.Live (szSlotS x.Written (szInsS x.Prog (n))) (by omega); omega) (by (try simp at *); have e0 := szInsS_le x.Prog (n) (by omega); have e1 := szSlotS_le x.Written (szInsS x.Prog (n)) (by omega); have e2 := szSlotS_le x.Live (szSlotS x.Written (szInsS x.Prog (n))) (by omega); omega)).k) (by repeat first | exact .nil | refine Snaps.cons (.ro _) ?_ | refine Snaps.cons (.aggRo rfl) ?_ | refine Snaps.cons (.cptr _) ?_ | refine Snaps.cons (.fn _) ?_ | refine Snaps.cons (.ownRef rfl (by first | assumption | exact w_IntS _ | exact w_IntSS _ | exact w_InsS _ | exact w_SlotS _ | exact w_GuestS _ | exact whole_map _ _ (fun w c hc => by simp only [D.row, List.mem_cons, List.not_mem_nil, or_false] at hc; subst hc; exact .v _))) ?_ | refine Snaps.cons (.aggR (by repeat first | exact .nil | refine SnapCs.cons (.ro _) ?_ | refine SnapCs.cons (.ref rfl (by first | assumption | exact w_IntS _ | exact w_IntSS _ | exact w_InsS _ | exact w_SlotS _ | exact w_GuestS _ | exact whole_map _ _ (fun w c hc => by simp only [D.row, List.mem_cons, List.not_mem_nil, or_false] at hc; subst hc; exact .v _))) ?_)) ?_) rfl (by simp only [St.put, List.set_cons_succ, List.set_cons_zero]; rfl) ?_
        refine TL.valE rfl (Val.assign 1 rfl rfl) (by simp only [St.put, List.set_cons_succ, List.set_cons_zero]; rfl) ?_
        refine TL.nil ?_
        show TC _ _ _ _ _ _
        refine TC.seq ?_
        refine TC.seq ?_
        -- region 11
        refine TC.region ?_
        refine TL.valE rfl (Val.move 1 rfl rfl) (by simp only [St.put, List.set_cons_succ, List.set_cons_zero]; rfl) ?_
        refine TL.valE rfl (Val.lss rfl rfl rfl) (by simp only [St.put, List.set_cons_succ, List.set_cons_zero]; rfl) ?_
        refine TL.nil ?_
        show TC _ _ _ _ _ _
        refine TC.cond rfl (fun hb => ?_) (fun hb => ?_)
        · refine TC.seq ?_
          -- region 12
          refine TC.region ?_
          refine TL.valE rfl (Val.assign 1 rfl rfl) (by simp only [St.put, List.set_cons_succ, List.set_cons_zero]; rfl) ?_
          refine TL.nil ?_
          show TC _ _ _ _ _ _
          refine TC.ret ?_
          exact ⟨.inr rfl, [_], [_], _, rfl, by decide, rfl, by simp [refV, refC, valC], rfl, resV (by simp at *; simp [szGuest, szThen, *]; try omega)⟩
        · refine TC.skip ?_
          show TC _ _ _ _ _ _
          refine TC.seq ?_
          -- region 13
          refine TC.region ?_
          refine TL.valE rfl (Val.move 1 rfl rfl) (by simp only [St.put, List.set_cons_succ, List.set_cons_zero]; rfl) ?_
          refine TL.valE rfl (Val.assign 1 rfl rfl) (by simp only [St.put, List.set_cons_succ, List.set_cons_zero]; rfl) ?_
          refine TL.nil ?_
          show TC _ _ _ _ _ _
          refine TC.ret ?_
          exact ⟨.inr rfl, [_], [_], _, rfl, by decide, rfl, by simp [refV, refC, valC], rfl, resV (by simp at *; simp [szGuest, szThen, *]; try omega)⟩

-- loop.example/g00975/laws.szGuestS: params ['[]laws.Guest', 'int'] results ['int'] ('arr', [('app', 'Go.ResultVar.tmp', ['4'])])
theorem laws_szGuestS_f (xs : List VGuest) (n : Int) (h1 : 0 ≤ n) (h2 : n ≤ 1048576) : Fun Tryd.prog 52 [L 15 (xs.map dGuest), I n] (RV (.int .i64 (szGuestS xs n))) := by
  refine Fun.of Tryd.func52 rfl (by simp [Tryd.ntmps52]) fun w g0 => ?_
  simp only [Tryd.ntmps52, List.length_cons, List.length_nil, Nat.reduceAdd, Nat.reduceSub, List.replicate, List.cons_append, List.nil_append]
  refine TC.most (i := 0) rfl rfl fun hm0 => ?_
  simp only [most, List.length_map] at hm0
  refine TC.seq ?_
  -- region 0
  refine TC.region ?_
  refine TL.valE rfl (Val.assign 1 rfl rfl) (by simp only [St.put, List.set_cons_succ, List.set_cons_zero]; rfl) ?_
  refine TL.nil ?_
  show TC _ _ _ _ _ _
  refine TC.seq ?_
  -- region 1
  refine TC.region ?_
  refine TL.valE rfl (Val.move 1 rfl rfl) (by simp only [St.put, List.set_cons_succ, List.set_cons_zero]; rfl) ?_
  refine TL.valE rfl (Val.move 1 rfl rfl) (by simp only [St.put, List.set_cons_succ, List.set_cons_zero]; rfl) ?_
  refine TL.valE rfl (by first | exact Val.len rfl rfl rfl rfl | exact Val.lenS rfl rfl rfl) (by simp only [St.put, List.set_cons_succ, List.set_cons_zero]; rfl) ?_
  refine TL.valE rfl (Val.sub rfl rfl rfl (by first | omega | (simp only [List.length_map]; omega)) (by first | omega | (simp only [List.length_map]; omega))) (by simp only [St.put, List.set_cons_succ, List.set_cons_zero]; rfl) ?_
  refine TL.valE rfl (Val.assign 1 rfl rfl) (by simp only [St.put, List.set_cons_succ, List.set_cons_zero]; rfl) ?_
  refine TL.nil ?_
  show TC _ _ _ _ _ _
  refine TC.seq ?_
  refine TC.seq ?_
  -- region 2
  refine TC.region ?_
  refine TL.valE rfl (Val.move 1 rfl rfl) (by simp only [St.put, List.set_cons_succ, List.set_cons_zero]; rfl) ?_
  refine TL.valE rfl (Val.lss rfl rfl rfl) (by simp only [St.put, List.set_cons_succ, List.set_cons_zero]; rfl) ?_
  refine TL.nil ?_
  show TC _ _ _ _ _ _
  refine TC.cond rfl (fun hb => ?_) (fun hb => ?_)
  · refine TC.seq ?_
    -- region 3
    refine TC.region ?_
    refine TL.valE rfl (Val.assign 1 rfl rfl) (by simp only [St.put, List.set_cons_succ, List.set_cons_zero]; rfl) ?_
    refine TL.nil ?_
    show TC _ _ _ _ _ _
    refine TC.ret ?_
    exact ⟨.inr rfl, [_], [_], _, rfl, by decide, rfl, by simp [refV, refC, valC], rfl, resV (by simp at hb; unfold szGuestS; rw [if_pos (by omega)])⟩
  · refine TC.skip ?_
    show TC _ _ _ _ _ _
    refine TC.seq ?_
    refine TC.seq ?_
    -- region 4
    refine TC.region ?_
    refine TL.valE rfl (Val.assign 1 rfl rfl) (by simp only [St.put, List.set_cons_succ, List.set_cons_zero]; rfl) ?_
    refine TL.nil ?_
    show TC _ _ _ _ _ _
    refine TC.block ?_
    refine TC.loop (fun μ st => ∃ (k : Nat) (m : Int), (k ≤ xs.length ∧ 0 ≤ m ∧ m ≤ n ∧ szGuestS xs n = szFold szGuest (xs.drop k) m) ∧ μ = xs.length - k ∧ Can st ⟨[L 15 (xs.map dGuest), I m, .one .dead, .one .dead, .one .dead, I k, .one .dead, .one .dead, .one .dead, .one .dead, .one .dead, .one .dead, .one .dead, .one .dead, .one .dead, .one .dead, .one .dead, .one .dead, .one .dead, .one .dead, .one .dead, .one .dead, .one .dead, .one .dead, .one .dead, .one .dead, .one .dead], []⟩) (xs.length) ?_ fun μ st hI => ?_
    · refine ⟨0, n - xs.length, (by simp at hb; refine ⟨by omega, by omega, by omega, ?_⟩; unfold szGuestS; rw [if_neg (by omega), List.drop_zero]), by simp, ?_⟩
      exact Can.to (by repeat first | exact LessT.nil | refine LessT.drop ?_ | refine LessT.keep ?_ | refine LessT.eq (by simp) ?_) (by repeat first | exact .nil | refine .cons rfl rfl ?_)
    · obtain ⟨k, m, hyp, rfl, hcan⟩ := hI
      refine TC.can hcan ?_
      clear hcan
      refine TC.seq ?_
      refine TC.seq ?_
      -- region 5
      refine TC.region ?_
      refine TL.valE rfl (Val.move 1 rfl rfl) (by simp only [St.put, List.set_cons_succ, List.set_cons_zero]; rfl) ?_
      refine TL.valE rfl (Val.move 1 rfl rfl) (by simp only [St.put, List.set_cons_succ, List.set_cons_zero]; rfl) ?_
      refine TL.valE rfl (by first | exact Val.len rfl rfl rfl rfl | exact Val.lenS rfl rfl rfl) (by simp only [St.put, List.set_cons_succ, List.set_cons_zero]; rfl) ?_
      refine TL.valE rfl (Val.lss rfl rfl rfl) (by simp only [St.put, List.set_cons_succ, List.set_cons_zero]; rfl) ?_
      refine TL.nil ?_
      show TC _ _ _ _ _ _
      refine TC.cond rfl (fun hb => ?_) (fun hb => ?_)
      · refine TC.skip ?_
        show TC _ _ _ _ _ _
        refine TC.seq ?_
        refine TC.block ?_
        refine TC.seq ?_
        have hk : k < xs.length := by simpa using hb
        obtain ⟨x, hx⟩ := at_of (xs := xs) (k := k) hk
        have hs := szFold_drop (f := szGuest) hx m
        -- region 7
        refine TC.region ?_
        refine TL.valE rfl (Val.move 1 rfl rfl) (by simp only [St.put, List.set_cons_succ, List.set_cons_zero]; rfl) ?_
        refine TL.valE rfl (Val.move 1 rfl rfl) (by simp only [St.put, List.set_cons_succ, List.set_cons_zero]; rfl) ?_
        refine TL.valE rfl (by exact Val.indexC (d := dGuest x) rfl rfl rfl rfl rfl (by omega) (by simp [hx])) (by simp only [St.put, List.set_cons_succ, List.set_cons_zero]; rfl) ?_
        refine TL.valE rfl (by first | exact Val.loadCAgg (n := 15) rfl rfl rfl rfl (Nat.le_of_ble_eq_true rfl) | exact Val.loadAgg (n := 15) rfl rfl rfl rfl (by simp [St.cellsAt, St.cellAt, St.root, valC]; rfl) rfl | exact Val.loadAgg (n := 15) rfl rfl rfl rfl rfl rfl) (by simp only [St.put, List.set_cons_succ, List.set_cons_zero, valC, dGuest, rGuest, D.row, List.take_succ_cons, List.take_zero, List.map_cons, List.map_nil]; rfl) ?_
        refine TL.valE rfl (Val.move 1 rfl rfl) (by simp only [St.put, List.set_cons_succ, List.set_cons_zero]; rfl) ?_
        refine TL.callF (yes_none rfl) rfl rfl rfl rfl rfl rfl ((laws_szGuest_f x m hyp.2.1 (by omega)).k) (by repeat first | exact .nil | refine Snaps.cons (.ro _) ?_ | refine Snaps.cons (.aggRo rfl) ?_ | refine Snaps.cons (.cptr _) ?_ | refine Snaps.cons (.fn _) ?_ | refine Snaps.cons (.ownRef rfl (by first | assumption | exact w_IntS _ | exact w_IntSS _ | exact w_InsS _ | exact w_SlotS _ | exact w_GuestS _ | exact whole_map _ _ (fun w c hc => by simp only [D.row, List.mem_cons, List.not_mem_nil, or_false] at hc; subst hc; exact .v _))) ?_ | refine Snaps.cons (.aggR (by repeat first | exact .nil | refine SnapCs.cons (.ro _) ?_ | refine SnapCs.cons (.ref rfl (by first | assumption | exact w_IntS _ | exact w_IntSS _ | exact w_InsS _ | exact w_SlotS _ | exact w_GuestS _ | exact whole_map _ _ (fun w c hc => by simp only [D.row, List.mem_cons, List.not_mem_nil, or_false] at hc; subst hc; exact .v _))) ?_)) ?_) rfl (by simp only [St.put, List.set_cons_succ, List.set_cons_zero]; rfl) ?_
        refine TL.valE rfl (Val.assign 1 rfl rfl) (by simp only [St.put, List.set_cons_succ, List.set_cons_zero]; rfl) ?_
        refine TL.nil ?_
        show TC _ _ _ _ _ _
        refine TC.seq ?_
        have hz := (szGuest_ok x m)
        -- region 8
        refine TC.region ?_
        refine TL.valE rfl (Val.move 1 rfl rfl) (by simp only [St.put, List.set_cons_succ, List.set_cons_zero]; rfl) ?_
        refine TL.valE rfl (Val.lss rfl rfl rfl) (by simp only [St.put, List.set_cons_succ, List.set_cons_zero]; rfl) ?_
        refine TL.nil ?_
        show TC _ _ _ _ _ _
        refine TC.cond rfl (fun hb => ?_) (fun hb => ?_)
        · refine TC.seq ?_
          -- region 9
          refine TC.region ?_
          refine TL.valE rfl (Val.assign 1 rfl rfl) (by simp only [St.put, List.set_cons_succ, List.set_cons_zero]; rfl) ?_
          refine TL.nil ?_
          show TC _ _ _ _ _ _
          refine TC.ret ?_
          exact ⟨.inr rfl, [_], [_], _, rfl, by decide, rfl, by simp [refV, refC, valC], rfl, resV (by simp at hb; rw [hyp.2.2.2, hs, if_pos hb])⟩
        · refine TC.skip ?_
          show TC _ _ _ _ _ _
          -- region 6
          refine TC.region ?_
          refine TL.valE rfl (Val.move 1 rfl rfl) (by simp only [St.put, List.set_cons_succ, List.set_cons_zero]; rfl) ?_
          refine TL.valE rfl (Val.add rfl rfl rfl (by first | omega | (simp only [List.length_map]; omega)) (by first | omega | (simp only [List.length_map]; omega))) (by simp only [St.put, List.set_cons_succ, List.set_cons_zero]; rfl) ?_
          refine TL.valE rfl (Val.assign 1 rfl rfl) (by simp only [St.put, List.set_cons_succ, List.set_cons_zero]; rfl) ?_
          refine TL.nil ?_
          first | refine Seq.normal ⟨_, ?_, k + 1, szGuest x m, ?_, rfl, ?_⟩ | refine Seq.normal (Q := fun _ _ => True) ⟨_, ?_, k + 1, szGuest x m, ?_, rfl, ?_⟩
          · omega
          · (simp at hb; have hz := hz (by omega); refine ⟨by omega, by omega, by omega, ?_⟩; rw [hyp.2.2.2, hs, if_neg (by omega)])
          · exact Can.to (by repeat first | exact LessT.nil | refine LessT.drop ?_ | refine LessT.keep ?_ | refine LessT.eq (by simp) ?_) (by repeat first | exact .nil | refine .cons rfl rfl ?_)
      · refine TC.exit ?_
        -- exit 0
        show TC _ _ _ _ _ _
        refine TC.seq ?_
        -- region 10
        refine TC.region ?_
        refine TL.valE rfl (Val.move 1 rfl rfl) (by simp only [St.put, List.set_cons_succ, List.set_cons_zero]; rfl) ?_
        refine TL.valE rfl (Val.assign 1 rfl rfl) (by simp only [St.put, List.set_cons_succ, List.set_cons_zero]; rfl) ?_
        refine TL.nil ?_
        show TC _ _ _ _ _ _
        refine TC.ret ?_
        exact ⟨.inr rfl, [_], [_], _, rfl, by decide, rfl, by simp [refV, refC, valC], rfl, resV (by simp at hb; rw [hyp.2.2.2, List.drop_eq_nil_of_le hb]; rfl)⟩

-- loop.example/g00975/laws.szBare: params ['laws.Bare = loop.example/g00975/laws.Bare', 'int'] results ['int'] ('arr', [('app', 'Go.ResultVar.tmp', ['4'])])
theorem laws_szBare_f (x : VBare) (n : Int) (h1 : 0 ≤ n) (h2 : n ≤ 1048576) : Fun Tryd.prog 13 [A (rBare x), I n] (RV (.int .i64 (szBare x n))) := by
  refine Fun.of Tryd.func13 rfl (by simp [Tryd.ntmps13]) fun w g0 => ?_
  simp only [Tryd.ntmps13, List.length_cons, List.length_nil, Nat.reduceAdd, Nat.reduceSub, List.replicate, List.cons_append, List.nil_append]
  refine TC.seq ?_
  -- region 0
  refine TC.region ?_
  refine TL.opK rfl fun K hK => ?_
  first | refine OpT.box rfl rfl (z := 1) rfl (by simp) ?_ | refine OpT.boxAgg rfl rfl rfl ?_ -- 2
  simp only [St.fresh, St.kill, St.setRoot, St.put, St.renew, TS.kill, TV.kill, C.kill, Rt.kill, boxC, List.map_cons, List.map_nil, List.filter_cons, List.filter_nil, List.set_cons_succ, List.set_cons_zero, List.contains_cons, List.contains_nil, Nat.reduceBEq, Nat.reduceBNe, St.wrote, hitR, hitP, shapeOf, List.isPrefixOf, List.append_eq, Bool.and_true, Bool.true_and, Bool.and_false, Bool.false_and, List.nil_append, List.cons_append, beq_self_eq_true, bne_self_eq_false, Bool.or_false, Bool.or_true, Bool.not_true, Bool.not_false, Bool.false_eq_true, if_true, if_false, reduceIte, resT, valsD, refsD, refD, nextD, nextsD, cellsD, isSl, List.append_nil]
  refine hK _ ?_
  clear hK K
  refine TL.valE rfl (Val.assign 1 rfl rfl) (by simp only [St.put, List.set_cons_succ, List.set_cons_zero]; rfl) ?_
  refine TL.nil ?_
  show TC _ _ _ _ _ _
  refine TC.seq ?_
  -- region 1
  refine TC.region ?_
  refine TL.valE rfl (by first | exact Val.field rfl rfl rfl | exact Val.fieldC rfl rfl rfl) (by simp only [St.put, List.set_cons_succ, List.set_cons_zero, List.getElem_toArray, List.getElem_cons_succ, List.getElem_cons_zero, Nat.zero_add, Nat.reduceAdd]; rfl) ?_
  refine TL.valE rfl (by first | exact Val.load rfl rfl rfl rfl rfl | exact Val.loadC rfl rfl rfl) (by simp only [St.put, List.set_cons_succ, List.set_cons_zero, valC]; rfl) ?_
  refine TL.valE rfl (Val.move 1 rfl rfl) (by simp only [St.put, List.set_cons_succ, List.set_cons_zero]; rfl) ?_
  refine TL.callF (yes_none rfl) rfl rfl rfl rfl rfl rfl ((laws_szIntSS_f x.Memory (n) (by (try simp at *); omega) (by (try simp at *); omega)).k) (by repeat first | exact .nil | refine Snaps.cons (.ro _) ?_ | refine Snaps.cons (.aggRo rfl) ?_ | refine Snaps.cons (.cptr _) ?_ | refine Snaps.cons (.fn _) ?_ | refine Snaps.cons (.ownRef rfl (by first | assumption | exact w_IntS _ | exact w_IntSS _ | exact w_InsS _ | exact w_SlotS _ | exact w_GuestS _ | exact whole_map _ _ (fun w c hc => by simp only [D.row, List.mem_cons, List.not_mem_nil, or_false] at hc; subst hc; exact .v _))) ?_ | refine Snaps.cons (.aggR (by repeat first | exact .nil | refine SnapCs.cons (.ro _) ?_ | refine SnapCs.cons (.ref rfl (by first | assumption | exact w_IntS _ | exact w_IntSS _ | exact w_InsS _ | exact w_SlotS _ | exact w_GuestS _ | exact whole_map _ _ (fun w c hc => by simp only [D.row, List.mem_cons, List.not_mem_nil, or_false] at hc; subst hc; exact .v _))) ?_)) ?_) rfl (by simp only [St.put, List.set_cons_succ, List.set_cons_zero]; rfl) ?_
  refine TL.valE rfl (Val.assign 1 rfl rfl) (by simp only [St.put, List.set_cons_succ, List.set_cons_zero]; rfl) ?_
  refine TL.nil ?_
  show TC _ _ _ _ _ _
  refine TC.seq ?_
  refine TC.seq ?_
  -- region 2
  refine TC.region ?_
  refine TL.valE rfl (Val.move 1 rfl rfl) (by simp only [St.put, List.set_cons_succ, List.set_cons_zero]; rfl) ?_
  refine TL.valE rfl (Val.lss rfl rfl rfl) (by simp only [St.put, List.set_cons_succ, List.set_cons_zero]; rfl) ?_
  refine TL.nil ?_
  show TC _ _ _ _ _ _
  refine TC.cond rfl (fun hb => ?_) (fun hb => ?_)
  · refine TC.seq ?_
    -- region 3
    refine TC.region ?_
    refine TL.valE rfl (Val.assign 1 rfl rfl) (by simp only [St.put, List.set_cons_succ, List.set_cons_zero]; rfl) ?_
    refine TL.nil ?_
    show TC _ _ _ _ _ _
    refine TC.ret ?_
    exact ⟨.inr rfl, [_], [_], _, rfl, by decide, rfl, by simp [refV, refC, valC], rfl, resV (by simp at *; simp [szBare, szThen, *]; try omega)⟩
  · refine TC.skip ?_
    show TC _ _ _ _ _ _
    refine TC.seq ?_
    -- region 4
    refine TC.region ?_
    refine TL.valE rfl (by first | exact Val.field rfl rfl rfl | exact Val.fieldC rfl rfl rfl) (by simp only [St.put, List.set_cons_succ, List.set_cons_zero, List.getElem_toArray, List.getElem_cons_succ, List.getElem_cons_zero, Nat.zero_add, Nat.reduceAdd]; rfl) ?_
    refine TL.valE rfl (by first | exact Val.load rfl rfl rfl rfl rfl | exact Val.loadC rfl rfl rfl) (by simp only [St.put, List.set_cons_succ, List.set_cons_zero, valC]; rfl) ?_
    refine TL.valE rfl (Val.move 1 rfl rfl) (by simp only [St.put, List.set_cons_succ, List.set_cons_zero]; rfl) ?_
    refine TL.callF (yes_none rfl) rfl rfl rfl rfl rfl rfl ((laws_szGuestS_f x.Guests (szIntSS x.Memory (n)) (by (try simp at *); have e0 := szIntSS_le x.Memory (n) (by omega); omega) (by (try simp at *); have e0 := szIntSS_le x.Memory (n) (by omega); omega)).k) (by repeat first | exact .nil | refine Snaps.cons (.ro _) ?_ | refine Snaps.cons (.aggRo rfl) ?_ | refine Snaps.cons (.cptr _) ?_ | refine Snaps.cons (.fn _) ?_ | refine Snaps.cons (.ownRef rfl (by first | assumption | exact w_IntS _ | exact w_IntSS _ | exact w_InsS _ | exact w_SlotS _ | exact w_GuestS _ | exact whole_map _ _ (fun w c hc => by simp only [D.row, List.mem_cons, List.not_mem_nil, or_false] at hc; subst hc; exact .v _))) ?_ | refine Snaps.cons (.aggR (by repeat first | exact .nil | refine SnapCs.cons (.ro _) ?_ | refine SnapCs.cons (.ref rfl (by first | assumption | exact w_IntS _ | exact w_IntSS _ | exact w_InsS _ | exact w_SlotS _ | exact w_GuestS _ | exact whole_map _ _ (fun w c hc => by simp only [D.row, List.mem_cons, List.not_mem_nil, or_false] at hc; subst hc; exact .v _))) ?_)) ?_) rfl (by simp only [St.put, List.set_cons_succ, List.set_cons_zero]; rfl) ?_
    refine TL.valE rfl (Val.assign 1 rfl rfl) (by simp only [St.put, List.set_cons_succ, List.set_cons_zero]; rfl) ?_
    refine TL.nil ?_
    show TC _ _ _ _ _ _
    refine TC.seq ?_
    refine TC.seq ?_
    -- region 5
    refine TC.region ?_
    refine TL.valE rfl (Val.move 1 rfl rfl) (by simp only [St.put, List.set_cons_succ, List.set_cons_zero]; rfl) ?_
    refine TL.valE rfl (Val.lss rfl rfl rfl) (by simp only [St.put, List.set_cons_succ, List.set_cons_zero]; rfl) ?_
    refine TL.nil ?_
    show TC _ _ _ _ _ _
    refine TC.cond rfl (fun hb => ?_) (fun hb => ?_)
    · refine TC.seq ?_
      -- region 6
      refine TC.region ?_
      refine TL.valE rfl (Val.assign 1 rfl rfl) (by simp only [St.put, List.set_cons_succ, List.set_cons_zero]; rfl) ?_
      refine TL.nil ?_
      show TC _ _ _ _ _ _
      refine TC.ret ?_
      exact ⟨.inr rfl, [_], [_], _, rfl, by decide, rfl, by simp [refV, refC, valC], rfl, resV (by simp at *; simp [szBare, szThen, *]; try omega)⟩
    · refine TC.skip ?_
      show TC _ _ _ _ _ _
      refine TC.seq ?_
      -- region 7
      refine TC.region ?_
      refine TL.valE rfl (by first | exact Val.field rfl rfl rfl | exact Val.fieldC rfl rfl rfl) (by simp only [St.put, List.set_cons_succ, List.set_cons_zero, List.getElem_toArray, List.getElem_cons_succ, List.getElem_cons_zero, Nat.zero_add, Nat.reduceAdd]; rfl) ?_
      refine TL.valE rfl (by first | exact Val.load rfl rfl rfl rfl rfl | exact Val.loadC rfl rfl rfl) (by simp only [St.put, List.set_cons_succ, List.set_cons_zero, valC]; rfl) ?_
      refine TL.valE rfl (Val.move 1 rfl rfl) (by simp only [St.put, List.set_cons_succ, List.set_cons_zero]; rfl) ?_
      refine TL.callF (yes_none rfl) rfl rfl rfl rfl rfl rfl ((laws_szIntS_f x.Outs (szGuestS x.Guests (szIntSS x.Memory (n))) (by (try simp at *); have e0 := szIntSS_le x.Memory (n) (by omega); have e1 := szGuestS_le x.Guests (szIntSS x.Memory (n)) (by omega); omega) (by (try simp at *); have e0 := szIntSS_le x.Memory (n) (by omega); have e1 := szGuestS_le x.Guests (szIntSS x.Memory (n)) (by omega); omega)).k) (by repeat first | exact .nil | refine Snaps.cons (.ro _) ?_ | refine Snaps.cons (.aggRo rfl) ?_ | refine Snaps.cons (.cptr _) ?_ | refine Snaps.cons (.fn _) ?_ | refine Snaps.cons (.ownRef rfl (by first | assumption | exact w_IntS _ | exact w_IntSS _ | exact w_InsS _ | exact w_SlotS _ | exact w_GuestS _ | exact whole_map _ _ (fun w c hc => by simp only [D.row, List.mem_cons, List.not_mem_nil, or_false] at hc; subst hc; exact .v _))) ?_ | refine Snaps.cons (.aggR (by repeat first | exact .nil | refine SnapCs.cons (.ro _) ?_ | refine SnapCs.cons (.ref rfl (by first | assumption | exact w_IntS _ | exact w_IntSS _ | exact w_InsS _ | exact w_SlotS _ | exact w_GuestS _ | exact whole_map _ _ (fun w c hc => by simp only [D.row, List.mem_cons, List.not_mem_nil, or_false] at hc; subst hc; exact .v _))) ?_)) ?_) rfl (by simp only [St.put, List.set_cons_succ, List.set_cons_zero]; rfl) ?_
      refine TL.valE rfl (Val.assign 1 rfl rfl) (by simp only [St.put, List.set_cons_succ, List.set_cons_zero]; rfl) ?_
      refine TL.nil ?_
      show TC _ _ _ _ _ _
      refine TC.seq ?_
      refine TC.seq ?_
      -- region 8
      refine TC.region ?_
      refine TL.valE rfl (Val.move 1 rfl rfl) (by simp only [St.put, List.set_cons_succ, List.set_cons_zero]; rfl) ?_
      refine TL.valE rfl (Val.lss rfl rfl rfl) (by simp only [St.put, List.set_cons_succ, List.set_cons_zero]; rfl) ?_
      refine TL.nil ?_
      show TC _ _ _ _ _ _
      refine TC.cond rfl (fun hb => ?_) (fun hb => ?_)
      · refine TC.seq ?_
        -- region 9
        refine TC.region ?_
        refine TL.valE rfl (Val.assign 1 rfl rfl) (by simp only [St.put, List.set_cons_succ, List.set_cons_zero]; rfl) ?_
        refine TL.nil ?_
        show TC _ _ _ _ _ _
        refine TC.ret ?_
        exact ⟨.inr rfl, [_], [_], _, rfl, by decide, rfl, by simp [refV, refC, valC], rfl, resV (by simp at *; simp [szBare, szThen, *]; try omega)⟩
      · refine TC.skip ?_
        show TC _ _ _ _ _ _
        refine TC.seq ?_
        -- region 10
        refine TC.region ?_
        refine TL.valE rfl (Val.move 1 rfl rfl) (by simp only [St.put, List.set_cons_succ, List.set_cons_zero]; rfl) ?_
        refine TL.valE rfl (Val.assign 1 rfl rfl) (by simp only [St.put, List.set_cons_succ, List.set_cons_zero]; rfl) ?_
        refine TL.nil ?_
        show TC _ _ _ _ _ _
        refine TC.ret ?_
        exact ⟨.inr rfl, [_], [_], _, rfl, by decide, rfl, by simp [refV, refC, valC], rfl, resV (by simp at *; simp [szBare, szThen, *]; try omega)⟩

-- loop.example/g00975/laws.toIntS: params ['[]int'] results ['[]int'] ('arr', [('app', 'Go.ResultVar.tmp', ['2'])])
theorem laws_toIntS_f (xs : List Int) (hmx : SmIntS xs) : Fun Tryd.prog 58 [L 1 (xs.map dInt)] (RL 1 (xs.map dInt)) := by
  refine Fun.of Tryd.func58 rfl (by simp [Tryd.ntmps58]) fun w g0 => ?_
  simp only [Tryd.ntmps58, List.length_cons, List.length_nil, Nat.reduceAdd, Nat.reduceSub, List.replicate, List.cons_append, List.nil_append]
  have hlen : xs.length ≤ 1048576 := hmx
  refine TC.seq ?_
  -- region 0
  refine TC.region ?_
  refine TL.valE rfl (Val.assign 1 rfl rfl) (by simp only [St.put, List.set_cons_succ, List.set_cons_zero]; rfl) ?_
  refine TL.nil ?_
  show TC _ _ _ _ _ _
  refine TC.seq ?_
  -- region 1
  refine TC.region ?_
  refine TL.valE rfl (Val.move 1 rfl rfl) (by simp only [St.put, List.set_cons_succ, List.set_cons_zero]; rfl) ?_
  refine TL.valE rfl (by first | exact Val.len rfl rfl rfl rfl | exact Val.lenS rfl rfl rfl) (by simp only [St.put, List.set_cons_succ, List.set_cons_zero]; rfl) ?_
  refine TL.opK rfl fun K hK => ?_
  refine OpT.makeE (d := (dInt 0)) rfl rfl rfl rfl rfl rfl rfl (sz := 1) rfl rfl rfl rfl rfl rfl rfl (by omega) (by simp; omega) ?_ -- 7
  simp only [St.fresh, St.kill, St.setRoot, St.put, St.renew, TS.kill, TV.kill, C.kill, Rt.kill, boxC, List.map_cons, List.map_nil, List.filter_cons, List.filter_nil, List.set_cons_succ, List.set_cons_zero, List.contains_cons, List.contains_nil, Nat.reduceBEq, Nat.reduceBNe, St.wrote, hitR, hitP, shapeOf, List.isPrefixOf, List.append_eq, Bool.and_true, Bool.true_and, Bool.and_false, Bool.false_and, List.nil_append, List.cons_append, beq_self_eq_true, bne_self_eq_false, Bool.or_false, Bool.or_true, Bool.not_true, Bool.not_false, Bool.false_eq_true, if_true, if_false, reduceIte, resT, valsD, refsD, refD, nextD, nextsD, cellsD, isSl, List.append_nil]
  refine hK _ ?_
  clear hK K
  refine TL.valE rfl (Val.assign 1 rfl rfl) (by simp only [St.put, List.set_cons_succ, List.set_cons_zero]; rfl) ?_
  refine TL.nil ?_
  show TC _ _ _ _ _ _
  refine TC.seq ?_
  refine TC.seq ?_
  -- region 2
  refine TC.region ?_
  refine TL.valE rfl (Val.assign 1 rfl rfl) (by simp only [St.put, List.set_cons_succ, List.set_cons_zero]; rfl) ?_
  refine TL.nil ?_
  show TC _ _ _ _ _ _
  refine TC.block ?_
  refine TC.loop (fun μ st => ∃ k : Nat, (k ≤ xs.length) ∧ μ = xs.length - k ∧ Can st ⟨[L 1 (xs.map dInt), .one .dead, .one .dead, .one (.c (.ref ⟨7, [], 0⟩)), I k, .one .dead, .one .dead, .one .dead, .one .dead, .one .dead, .one .dead, .one .dead, .one .dead, .one .dead, .one .dead, .one .dead, .one .dead, .one .dead, .one .dead, .one .dead, .one .dead, .one .dead], [(7, ⟨false, [.own (.sl 1 (fill dInt (dInt 0) xs k))]⟩)]⟩) (xs.length) ?_ fun μ st hI => ?_
  · refine ⟨0, by simp, by simp, ?_⟩
    exact Can.to (by repeat first | exact LessT.nil | refine LessT.drop ?_ | refine LessT.keep ?_ | refine LessT.eq (by simp) ?_) (.cons rfl (by simp [fill]) .nil)
  · obtain ⟨k, hyp, rfl, hcan⟩ := hI
    refine TC.can hcan ?_
    clear hcan
    refine TC.seq ?_
    refine TC.seq ?_
    -- region 3
    refine TC.region ?_
    refine TL.valE rfl (Val.move 1 rfl rfl) (by simp only [St.put, List.set_cons_succ, List.set_cons_zero]; rfl) ?_
    refine TL.valE rfl (Val.move 1 rfl rfl) (by simp only [St.put, List.set_cons_succ, List.set_cons_zero]; rfl) ?_
    refine TL.valE rfl (by first | exact Val.len rfl rfl rfl rfl | exact Val.lenS rfl rfl rfl) (by simp only [St.put, List.set_cons_succ, List.set_cons_zero]; rfl) ?_
    refine TL.valE rfl (Val.lss rfl rfl rfl) (by simp only [St.put, List.set_cons_succ, List.set_cons_zero]; rfl) ?_
    refine TL.nil ?_
    show TC _ _ _ _ _ _
    refine TC.cond rfl (fun hb => ?_) (fun hb => ?_)
    · refine TC.skip ?_
      show TC _ _ _ _ _ _
      refine TC.seq ?_
      refine TC.block ?_
      have hk : k < xs.length := by simpa using hb
      obtain ⟨x, hx⟩ := at_of (xs := xs) (k := k) hk
      have hg := fill_get (f := dInt) (z := (dInt 0)) hk
      have hs := fill_set (f := dInt) (z := (dInt 0)) hx
      -- region 5
      refine TC.region ?_
      refine TL.valE rfl (Val.move 1 rfl rfl) (by simp only [St.put, List.set_cons_succ, List.set_cons_zero]; rfl) ?_
      refine TL.valE rfl (Val.move 1 rfl rfl) (by simp only [St.put, List.set_cons_succ, List.set_cons_zero]; rfl) ?_
      refine TL.valE rfl (Val.move 1 rfl rfl) (by simp only [St.put, List.set_cons_succ, List.set_cons_zero]; rfl) ?_
      refine TL.valE rfl (Val.move 1 rfl rfl) (by simp only [St.put, List.set_cons_succ, List.set_cons_zero]; rfl) ?_
      refine TL.valE rfl (by exact Val.indexC (d := dInt x) rfl rfl rfl rfl rfl (by omega) (by simp [hx])) (by simp only [St.put, List.set_cons_succ, List.set_cons_zero]; rfl) ?_
      refine TL.valE rfl (by first | exact Val.load rfl rfl rfl rfl rfl | exact Val.loadC rfl rfl rfl) (by simp only [St.put, List.set_cons_succ, List.set_cons_zero, valC]; rfl) ?_
      refine TL.valE rfl (by exact Val.index rfl rfl rfl rfl rfl rfl (by omega) (by simp [fill_len]; omega)) (by simp only [St.put, List.set_cons_succ, List.set_cons_zero]; rfl) ?_
      refine TL.opK rfl fun K hK => ?_
      refine OpT.store (z := 1) rfl rfl rfl rfl (by simp [St.store1, St.storeAll, St.cellAt, St.isMem, St.root, St.wrote, St.kill, St.setRoot, TS.kill, TV.kill, C.kill, Rt.kill, hitR, hitP, shapeOf, setRow, setAt, rowAt, D.row, D.reRow, List.isPrefixOf, hg]; rfl) rfl (by simp [St.store1, St.storeAll, St.cellAt, St.isMem, St.root, St.wrote, St.kill, St.setRoot, TS.kill, TV.kill, C.kill, Rt.kill, hitR, hitP, shapeOf, setRow, setAt, rowAt, D.row, D.reRow, List.isPrefixOf, hg, hs]; rfl) ?_
      simp only [St.fresh, St.kill, St.setRoot, St.put, St.renew, TS.kill, TV.kill, C.kill, Rt.kill, boxC, List.map_cons, List.map_nil, List.filter_cons, List.filter_nil, List.set_cons_succ, List.set_cons_zero, List.contains_cons, List.contains_nil, Nat.reduceBEq, Nat.reduceBNe, St.wrote, hitR, hitP, shapeOf, List.isPrefixOf, List.append_eq, Bool.and_true, Bool.true_and, Bool.and_false, Bool.false_and, List.nil_append, List.cons_append, beq_self_eq_true, bne_self_eq_false, Bool.or_false, Bool.or_true, Bool.not_true, Bool.not_false, Bool.false_eq_true, if_true, if_false, reduceIte, resT, valsD, refsD, refD, nextD, nextsD, cellsD, isSl, List.append_nil]
      refine hK _ ?_
      clear hK K
      refine TL.nil ?_
      show TC _ _ _ _ _ _
      -- region 4
      refine TC.region ?_
      refine TL.valE rfl (Val.move 1 rfl rfl) (by simp only [St.put, List.set_cons_succ, List.set_cons_zero]; rfl) ?_
      refine TL.valE rfl (Val.add rfl rfl rfl (by first | omega | (simp only [List.length_map]; omega)) (by first | omega | (simp only [List.length_map]; omega))) (by simp only [St.put, List.set_cons_succ, List.set_cons_zero]; rfl) ?_
      refine TL.valE rfl (Val.assign 1 rfl rfl) (by simp only [St.put, List.set_cons_succ, List.set_cons_zero]; rfl) ?_
      refine TL.nil ?_
      first | refine Seq.normal ⟨_, ?_, k + 1, ?_, rfl, ?_⟩ | refine Seq.normal (Q := fun _ _ => True) ⟨_, ?_, k + 1, ?_, rfl, ?_⟩
      · omega
      · omega
      · exact Can.to (by repeat first | exact LessT.nil | refine LessT.drop ?_ | refine LessT.keep ?_ | refine LessT.eq (by simp) ?_) (by repeat first | exact .nil | refine .cons rfl rfl ?_)
    · refine TC.exit ?_
      -- exit 0
      show TC _ _ _ _ _ _
      refine TC.seq ?_
      -- region 6
      refine TC.region ?_
      refine TL.valE rfl (Val.move 1 rfl rfl) (by simp only [St.put, List.set_cons_succ, List.set_cons_zero]; rfl) ?_
      refine TL.valE rfl (Val.assign 1 rfl rfl) (by simp only [St.put, List.set_cons_succ, List.set_cons_zero]; rfl) ?_
      refine TL.nil ?_
      show TC _ _ _ _ _ _
      refine TC.ret ?_
      exact ⟨.inr rfl, [_], [_], _, rfl, by decide, rfl, by simp [refV, refC, valC], rfl, by simp at hb; rw [← fill_all (f := dInt) (z := (dInt 0)) (k := k) (by omega)]; rfl⟩

-- loop.example/g00975/laws.toIntSS: params ['[][]int'] results ['[][]int'] ('arr', [('app', 'Go.ResultVar.tmp', ['2'])])
theorem laws_toIntSS_f (xs : List (List Int)) (hmx : SmIntSS xs) : Fun Tryd.prog 56 [L 1 (xs.map dIntS)] (RL 1 (xs.map dIntS)) := by
  refine Fun.of Tryd.func56 rfl (by simp [Tryd.ntmps56]) fun w g0 => ?_
  simp only [Tryd.ntmps56, List.length_cons, List.length_nil, Nat.reduceAdd, Nat.reduceSub, List.replicate, List.cons_append, List.nil_append]
  have hlen : xs.length ≤ 1048576 := hmx.1
  refine TC.seq ?_
  -- region 0
  refine TC.region ?_
  refine TL.valE rfl (Val.assign 1 rfl rfl) (by simp only [St.put, List.set_cons_succ, List.set_cons_zero]; rfl) ?_
  refine TL.nil ?_
  show TC _ _ _ _ _ _
  refine TC.seq ?_
  -- region 1
  refine TC.region ?_
  refine TL.valE rfl (Val.move 1 rfl rfl) (by simp only [St.put, List.set_cons_succ, List.set_cons_zero]; rfl) ?_
  refine TL.valE rfl (by first | exact Val.len rfl rfl rfl rfl | exact Val.lenS rfl rfl rfl) (by simp only [St.put, List.set_cons_succ, List.set_cons_zero]; rfl) ?_
  refine TL.opK rfl fun K hK => ?_
  refine OpT.makeE (d := (dIntS [])) rfl rfl rfl rfl rfl rfl rfl (sz := 1) rfl rfl rfl rfl rfl rfl rfl (by omega) (by simp; omega) ?_ -- 7
  simp only [St.fresh, St.kill, St.setRoot, St.put, St.renew, TS.kill, TV.kill, C.kill, Rt.kill, boxC, List.map_cons, List.map_nil, List.filter_cons, List.filter_nil, List.set_cons_succ, List.set_cons_zero, List.contains_cons, List.contains_nil, Nat.reduceBEq, Nat.reduceBNe, St.wrote, hitR, hitP, shapeOf, List.isPrefixOf, List.append_eq, Bool.and_true, Bool.true_and, Bool.and_false, Bool.false_and, List.nil_append, List.cons_append, beq_self_eq_true, bne_self_eq_false, Bool.or_false, Bool.or_true, Bool.not_true, Bool.not_false, Bool.false_eq_true, if_true, if_false, reduceIte, resT, valsD, refsD, refD, nextD, nextsD, cellsD, isSl, List.append_nil]
  refine hK _ ?_
  clear hK K
  refine TL.valE rfl (Val.assign 1 rfl rfl) (by simp only [St.put, List.set_cons_succ, List.set_cons_zero]; rfl) ?_
  refine TL.nil ?_
  show TC _ _ _ _ _ _
  refine TC.seq ?_
  refine TC.seq ?_
  -- region 2
  refine TC.region ?_
  refine TL.valE rfl (Val.assign 1 rfl rfl) (by simp only [St.put, List.set_cons_succ, List.set_cons_zero]; rfl) ?_
  refine TL.nil ?_
  show TC _ _ _ _ _ _
  refine TC.block ?_
  refine TC.loop (fun μ st => ∃ k : Nat, (k ≤ xs.length) ∧ μ = xs.length - k ∧ Can st ⟨[L 1 (xs.map dIntS), .one .dead, .one .dead, .one (.c (.ref ⟨7, [], 0⟩)), I k, .one .dead, .one .dead, .one .dead, .one .dead, .one .dead, .one .dead, .one .dead, .one .dead, .one .dead, .one .dead, .one .dead, .one .dead, .one .dead, .one .dead, .one .dead, .one .dead, .one .dead, .one .dead], [(7, ⟨false, [.own (.sl 1 (fill dIntS (dIntS []) xs k))]⟩)]⟩) (xs.length) ?_ fun μ st hI => ?_
  · refine ⟨0, by simp, by simp, ?_⟩
    exact Can.to (by repeat first | exact LessT.nil | refine LessT.drop ?_ | refine LessT.keep ?_ | refine LessT.eq (by simp) ?_) (.cons rfl (by simp [fill]) .nil)
  · obtain ⟨k, hyp, rfl, hcan⟩ := hI
    refine TC.can hcan ?_
    clear hcan
    refine TC.seq ?_
    refine TC.seq ?_
    -- region 3
    refine TC.region ?_
    refine TL.valE rfl (Val.move 1 rfl rfl) (by simp only [St.put, List.set_cons_succ, List.set_cons_zero]; rfl) ?_
    refine TL.valE rfl (Val.move 1 rfl rfl) (by simp only [St.put, List.set_cons_succ, List.set_cons_zero]; rfl) ?_
    refine TL.valE rfl (by first | exact Val.len rfl rfl rfl rfl | exact Val.lenS rfl rfl rfl) (by simp only [St.put, List.set_cons_succ, List.set_cons_zero]; rfl) ?_
    refine TL.valE rfl (Val.lss rfl rfl rfl) (by simp only [St.put, List.set_cons_succ, List.set_cons_zero]; rfl) ?_
    refine TL.nil ?_
    show TC _ _ _ _ _ _
    refine TC.cond rfl (fun hb => ?_) (fun hb => ?_)
    · refine TC.skip ?_
      show TC _ _ _ _ _ _
      refine TC.seq ?_
      refine TC.block ?_
      have hk : k < xs.length := by simpa using hb
      obtain ⟨x, hx⟩ := at_of (xs := xs) (k := k) hk
      have hsx : SmIntS x := hmx.2 x (List.mem_of_getElem? hx)
      have hg := fill_get (f := dIntS) (z := (dIntS [])) hk
      have hs := fill_set (f := dIntS) (z := (dIntS [])) hx
      -- region 5
      refine TC.region ?_
      refine TL.valE rfl (Val.move 1 rfl rfl) (by simp only [St.put, List.set_cons_succ, List.set_cons_zero]; rfl) ?_
      refine TL.valE rfl (Val.move 1 rfl rfl) (by simp only [St.put, List.set_cons_succ, List.set_cons_zero]; rfl) ?_
      refine TL.valE rfl (Val.move 1 rfl rfl) (by simp only [St.put, List.set_cons_succ, List.set_cons_zero]; rfl) ?_
      refine TL.valE rfl (Val.move 1 rfl rfl) (by simp only [St.put, List.set_cons_succ, List.set_cons_zero]; rfl) ?_
      refine TL.valE rfl (by exact Val.indexC (d := dIntS x) rfl rfl rfl rfl rfl (by omega) (by simp [hx])) (by simp only [St.put, List.set_cons_succ, List.set_cons_zero]; rfl) ?_
      refine TL.valE rfl (by first | exact Val.load rfl rfl rfl rfl rfl | exact Val.loadC rfl rfl rfl) (by simp only [St.put, List.set_cons_succ, List.set_cons_zero, valC]; rfl) ?_
      refine TL.opK rfl fun K hK => ?_
      refine OpT.callL rfl rfl rfl rfl rfl rfl ((laws_toIntS_f x hsx).k) (by repeat first | exact .nil | refine Snaps.cons (.ro _) ?_ | refine Snaps.cons (.aggRo rfl) ?_ | refine Snaps.cons (.cptr _) ?_ | refine Snaps.cons (.fn _) ?_ | refine Snaps.cons (.ownRef rfl (by first | assumption | exact w_IntS _ | exact w_IntSS _ | exact w_InsS _ | exact w_SlotS _ | exact w_GuestS _ | exact whole_map _ _ (fun w c hc => by simp only [D.row, List.mem_cons, List.not_mem_nil, or_false] at hc; subst hc; exact .v _))) ?_ | refine Snaps.cons (.aggR (by repeat first | exact .nil | refine SnapCs.cons (.ro _) ?_ | refine SnapCs.cons (.ref rfl (by first | assumption | exact w_IntS _ | exact w_IntSS _ | exact w_InsS _ | exact w_SlotS _ | exact w_GuestS _ | exact whole_map _ _ (fun w c hc => by simp only [D.row, List.mem_cons, List.not_mem_nil, or_false] at hc; subst hc; exact .v _))) ?_)) ?_) ?_ -- 20
      simp only [St.fresh, St.kill, St.setRoot, St.put, St.renew, TS.kill, TV.kill, C.kill, Rt.kill, boxC, List.map_cons, List.map_nil, List.filter_cons, List.filter_nil, List.set_cons_succ, List.set_cons_zero, List.contains_cons, List.contains_nil, Nat.reduceBEq, Nat.reduceBNe, St.wrote, hitR, hitP, shapeOf, List.isPrefixOf, List.append_eq, Bool.and_true, Bool.true_and, Bool.and_false, Bool.false_and, List.nil_append, List.cons_append, beq_self_eq_true, bne_self_eq_false, Bool.or_false, Bool.or_true, Bool.not_true, Bool.not_false, Bool.false_eq_true, if_true, if_false, reduceIte, resT, valsD, refsD, refD, nextD, nextsD, cellsD, isSl, List.append_nil]
      refine hK _ ?_
      clear hK K
      refine TL.valE rfl (by exact Val.index rfl rfl rfl rfl rfl rfl (by omega) (by simp [fill_len]; omega)) (by simp only [St.put, List.set_cons_succ, List.set_cons_zero]; rfl) ?_
      refine TL.opK rfl fun K hK => ?_
      refine OpT.store (z := 1) rfl rfl rfl rfl (by simp [St.store1, St.storeAll, St.cellAt, St.isMem, St.root, St.wrote, St.kill, St.setRoot, TS.kill, TV.kill, C.kill, Rt.kill, hitR, hitP, shapeOf, setRow, setAt, rowAt, D.row, D.reRow, List.isPrefixOf, hg]; rfl) rfl (by simp [St.store1, St.storeAll, St.cellAt, St.isMem, St.root, St.wrote, St.kill, St.setRoot, TS.kill, TV.kill, C.kill, Rt.kill, hitR, hitP, shapeOf, setRow, setAt, rowAt, D.row, D.reRow, List.isPrefixOf, hg, hs]; rfl) ?_
      simp only [St.fresh, St.kill, St.setRoot, St.put, St.renew, TS.kill, TV.kill, C.kill, Rt.kill, boxC, List.map_cons, List.map_nil, List.filter_cons, List.filter_nil, List.set_cons_succ, List.set_cons_zero, List.contains_cons, List.contains_nil, Nat.reduceBEq, Nat.reduceBNe, St.wrote, hitR, hitP, shapeOf, List.isPrefixOf, List.append_eq, Bool.and_true, Bool.true_and, Bool.and_false, Bool.false_and, List.nil_append, List.cons_append, beq_self_eq_true, bne_self_eq_false, Bool.or_false, Bool.or_true, Bool.not_true, Bool.not_false, Bool.false_eq_true, if_true, if_false, reduceIte, resT, valsD, refsD, refD, nextD, nextsD, cellsD, isSl, List.append_nil]
      refine hK _ ?_
      clear hK K
      refine TL.nil ?_
      show TC _ _ _ _ _ _
      -- region 4
      refine TC.region ?_
      refine TL.valE rfl (Val.move 1 rfl rfl) (by simp only [St.put, List.set_cons_succ, List.set_cons_zero]; rfl) ?_
      refine TL.valE rfl (Val.add rfl rfl rfl (by first | omega | (simp only [List.length_map]; omega)) (by first | omega | (simp only [List.length_map]; omega))) (by simp only [St.put, List.set_cons_succ, List.set_cons_zero]; rfl) ?_
      refine TL.valE rfl (Val.assign 1 rfl rfl) (by simp only [St.put, List.set_cons_succ, List.set_cons_zero]; rfl) ?_
      refine TL.nil ?_
      first | refine Seq.normal ⟨_, ?_, k + 1, ?_, rfl, ?_⟩ | refine Seq.normal (Q := fun _ _ => True) ⟨_, ?_, k + 1, ?_, rfl, ?_⟩
      · omega
      · omega
      · exact Can.to (by repeat first | exact LessT.nil | refine LessT.drop ?_ | refine LessT.keep ?_ | refine LessT.eq (by simp) ?_) (by repeat first | exact .nil | refine .cons rfl rfl ?_)
    · refine TC.exit ?_
      -- exit 0
      show TC _ _ _ _ _ _
      refine TC.seq ?_
      -- region 6
      refine TC.region ?_
      refine TL.valE rfl (Val.move 1 rfl rfl) (by simp only [St.put, List.set_cons_succ, List.set_cons_zero]; rfl) ?_
      refine TL.valE rfl (Val.assign 1 rfl rfl) (by simp only [St.put, List.set_cons_succ, List.set_cons_zero]; rfl) ?_
      refine TL.nil ?_
      show TC _ _ _ _ _ _
      refine TC.ret ?_
      exact ⟨.inr rfl, [_], [_], _, rfl, by decide, rfl, by simp [refV, refC, valC], rfl, by simp at hb; rw [← fill_all (f := dIntS) (z := (dIntS [])) (k := k) (by omega)]; rfl⟩

-- loop.example/g00975/laws.toInsS: params ['[]laws.Ins'] results ['[]impl.Ins'] ('arr', [('app', 'Go.ResultVar.tmp', ['2'])])
theorem laws_toInsS_f (xs : List VIns) (hmx : SmInsS xs) : Fun Tryd.prog 129 [L 2 (xs.map dIns)] (RL 2 (xs.map dIns)) := by
  refine Fun.of Tryd.func129 rfl (by simp [Tryd.ntmps129]) fun w g0 => ?_
  simp only [Tryd.ntmps129, List.length_cons, List.length_nil, Nat.reduceAdd, Nat.reduceSub, List.replicate, List.cons_append, List.nil_append]
  have hlen : xs.length ≤ 1048576 := hmx
  refine TC.seq ?_
  -- region 0
  refine TC.region ?_
  refine TL.valE rfl (Val.assign 1 rfl rfl) (by simp only [St.put, List.set_cons_succ, List.set_cons_zero]; rfl) ?_
  refine TL.nil ?_
  show TC _ _ _ _ _ _
  refine TC.seq ?_
  -- region 1
  refine TC.region ?_
  refine TL.valE rfl (Val.move 1 rfl rfl) (by simp only [St.put, List.set_cons_succ, List.set_cons_zero]; rfl) ?_
  refine TL.valE rfl (by first | exact Val.len rfl rfl rfl rfl | exact Val.lenS rfl rfl rfl) (by simp only [St.put, List.set_cons_succ, List.set_cons_zero]; rfl) ?_
  refine TL.opK rfl fun K hK => ?_
  refine OpT.makeE (d := (dIns (VIns.mk 0 0))) rfl rfl rfl rfl rfl rfl rfl (sz := 2) rfl rfl rfl rfl rfl rfl rfl (by omega) (by simp; omega) ?_ -- 7
  simp only [St.fresh, St.kill, St.setRoot, St.put, St.renew, TS.kill, TV.kill, C.kill, Rt.kill, boxC, List.map_cons, List.map_nil, List.filter_cons, List.filter_nil, List.set_cons_succ, List.set_cons_zero, List.contains_cons, List.contains_nil, Nat.reduceBEq, Nat.reduceBNe, St.wrote, hitR, hitP, shapeOf, List.isPrefixOf, List.append_eq, Bool.and_true, Bool.true_and, Bool.and_false, Bool.false_and, List.nil_append, List.cons_append, beq_self_eq_true, bne_self_eq_false, Bool.or_false, Bool.or_true, Bool.not_true, Bool.not_false, Bool.false_eq_true, if_true, if_false, reduceIte, resT, valsD, refsD, refD, nextD, nextsD, cellsD, isSl, List.append_nil]
  refine hK _ ?_
  clear hK K
  refine TL.valE rfl (Val.assign 1 rfl rfl) (by simp only [St.put, List.set_cons_succ, List.set_cons_zero]; rfl) ?_
  refine TL.nil ?_
  show TC _ _ _ _ _ _
  refine TC.seq ?_
  refine TC.seq ?_
  -- region 2
  refine TC.region ?_
  refine TL.valE rfl (Val.assign 1 rfl rfl) (by simp only [St.put, List.set_cons_succ, List.set_cons_zero]; rfl) ?_
  refine TL.nil ?_
  show TC _ _ _ _ _ _
  refine TC.block ?_
  refine TC.loop (fun μ st => ∃ k : Nat, (k ≤ xs.length) ∧ μ = xs.length - k ∧ Can st ⟨[L 2 (xs.map dIns), .one .dead, .one .dead, .one (.c (.ref ⟨7, [], 0⟩)), I k, .one .dead, .one .dead, .one .dead, .one .dead, .one .dead, .one .dead, .one .dead, .one .dead, .one .dead, .one .dead, .one .dead, .one .dead, .one .dead, .one .dead, .one .dead, .one .dead, .one .dead, .one .dead], [(7, ⟨false, [.own (.sl 2 (fill dIns (dIns (VIns.mk 0 0)) xs k))]⟩)]⟩) (xs.length) ?_ fun μ st hI => ?_
  · refine ⟨0, by simp, by simp, ?_⟩
    exact Can.to (by repeat first | exact LessT.nil | refine LessT.drop ?_ | refine LessT.keep ?_ | refine LessT.eq (by simp) ?_) (.cons rfl (by simp [fill]) .nil)
  · obtain ⟨k, hyp, rfl, hcan⟩ := hI
    refine TC.can hcan ?_
    clear hcan
    refine TC.seq ?_
    refine TC.seq ?_
    -- region 3
    refine TC.region ?_
    refine TL.valE rfl (Val.move 1 rfl rfl) (by simp only [St.put, List.set_cons_succ, List.set_cons_zero]; rfl) ?_
    refine TL.valE rfl (Val.move 1 rfl rfl) (by simp only [St.put, List.set_cons_succ, List.set_cons_zero]; rfl) ?_
    refine TL.valE rfl (by first | exact Val.len rfl rfl rfl rfl | exact Val.lenS rfl rfl rfl) (by simp only [St.put, List.set_cons_succ, List.set_cons_zero]; rfl) ?_
    refine TL.valE rfl (Val.lss rfl rfl rfl) (by simp only [St.put, List.set_cons_succ, List.set_cons_zero]; rfl) ?_
    refine TL.nil ?_
    show TC _ _ _ _ _ _
    refine TC.cond rfl (fun hb => ?_) (fun hb => ?_)
    · refine TC.skip ?_
      show TC _ _ _ _ _ _
      refine TC.seq ?_
      refine TC.block ?_
      have hk : k < xs.length := by simpa using hb
      obtain ⟨x, hx⟩ := at_of (xs := xs) (k := k) hk
      have hg := fill_get (f := dIns) (z := (dIns (VIns.mk 0 0))) hk
      have hs := fill_set (f := dIns) (z := (dIns (VIns.mk 0 0))) hx
      -- region 5
      refine TC.region ?_
      refine TL.valE rfl (Val.move 1 rfl rfl) (by simp only [St.put, List.set_cons_succ, List.set_cons_zero]; rfl) ?_
      refine TL.valE rfl (Val.move 1 rfl rfl) (by simp only [St.put, List.set_cons_succ, List.set_cons_zero]; rfl) ?_
      refine TL.valE rfl (Val.move 1 rfl rfl) (by simp only [St.put, List.set_cons_succ, List.set_cons_zero]; rfl) ?_
      refine TL.valE rfl (Val.move 1 rfl rfl) (by simp only [St.put, List.set_cons_succ, List.set_cons_zero]; rfl) ?_
      refine TL.valE rfl (by exact Val.indexC (d := dIns x) rfl rfl rfl rfl rfl (by omega) (by simp [hx])) (by simp only [St.put, List.set_cons_succ, List.set_cons_zero]; rfl) ?_
      refine TL.valE rfl (by first | exact Val.loadCAgg (n := 2) rfl rfl rfl rfl (Nat.le_of_ble_eq_true rfl) | exact Val.loadAgg (n := 2) rfl rfl rfl rfl (by simp [St.cellsAt, St.cellAt, St.root, valC]; rfl) rfl | exact Val.loadAgg (n := 2) rfl rfl rfl rfl rfl rfl) (by simp only [St.put, List.set_cons_succ, List.set_cons_zero, valC, dIns, rIns, D.row, List.take_succ_cons, List.take_zero, List.map_cons, List.map_nil]; rfl) ?_
      refine TL.callF (yes_none rfl) rfl rfl rfl rfl rfl rfl ((laws_toIns_f x).k) (by repeat first | exact .nil | refine Snaps.cons (.ro _) ?_ | refine Snaps.cons (.aggRo rfl) ?_ | refine Snaps.cons (.cptr _) ?_ | refine Snaps.cons (.fn _) ?_ | refine Snaps.cons (.ownRef rfl (by first | assumption | exact w_IntS _ | exact w_IntSS _ | exact w_InsS _ | exact w_SlotS _ | exact w_GuestS _ | exact whole_map _ _ (fun w c hc => by simp only [D.row, List.mem_cons, List.not_mem_nil, or_false] at hc; subst hc; exact .v _))) ?_ | refine Snaps.cons (.aggR (by repeat first | exact .nil | refine SnapCs.cons (.ro _) ?_ | refine SnapCs.cons (.ref rfl (by first | assumption | exact w_IntS _ | exact w_IntSS _ | exact w_InsS _ | exact w_SlotS _ | exact w_GuestS _ | exact whole_map _ _ (fun w c hc => by simp only [D.row, List.mem_cons, List.not_mem_nil, or_false] at hc; subst hc; exact .v _))) ?_)) ?_) rfl (by simp only [St.put, List.set_cons_succ, List.set_cons_zero]; rfl) ?_
      refine TL.valE rfl (by exact Val.index rfl rfl rfl rfl rfl rfl (by omega) (by simp [fill_len]; omega)) (by simp only [St.put, List.set_cons_succ, List.set_cons_zero]; rfl) ?_
      refine TL.opK rfl fun K hK => ?_
      refine OpT.storeAgg rfl rfl rfl rfl rfl rfl (by simp [St.store1, St.storeAll, St.cellAt, St.isMem, St.root, St.wrote, St.kill, St.setRoot, TS.kill, TV.kill, C.kill, Rt.kill, hitR, hitP, shapeOf, setRow, setAt, rowAt, D.row, D.reRow, List.isPrefixOf, List.getElem?_set_self', List.set_set, hg, hs]; rfl) ?_
      simp only [St.fresh, St.kill, St.setRoot, St.put, St.renew, TS.kill, TV.kill, C.kill, Rt.kill, boxC, List.map_cons, List.map_nil, List.filter_cons, List.filter_nil, List.set_cons_succ, List.set_cons_zero, List.contains_cons, List.contains_nil, Nat.reduceBEq, Nat.reduceBNe, St.wrote, hitR, hitP, shapeOf, List.isPrefixOf, List.append_eq, Bool.and_true, Bool.true_and, Bool.and_false, Bool.false_and, List.nil_append, List.cons_append, beq_self_eq_true, bne_self_eq_false, Bool.or_false, Bool.or_true, Bool.not_true, Bool.not_false, Bool.false_eq_true, if_true, if_false, reduceIte, resT, valsD, refsD, refD, nextD, nextsD, cellsD, isSl, List.append_nil]
      refine hK _ ?_
      clear hK K
      refine TL.nil ?_
      show TC _ _ _ _ _ _
      -- region 4
      refine TC.region ?_
      refine TL.valE rfl (Val.move 1 rfl rfl) (by simp only [St.put, List.set_cons_succ, List.set_cons_zero]; rfl) ?_
      refine TL.valE rfl (Val.add rfl rfl rfl (by first | omega | (simp only [List.length_map]; omega)) (by first | omega | (simp only [List.length_map]; omega))) (by simp only [St.put, List.set_cons_succ, List.set_cons_zero]; rfl) ?_
      refine TL.valE rfl (Val.assign 1 rfl rfl) (by simp only [St.put, List.set_cons_succ, List.set_cons_zero]; rfl) ?_
      refine TL.nil ?_
      first | refine Seq.normal ⟨_, ?_, k + 1, ?_, rfl, ?_⟩ | refine Seq.normal (Q := fun _ _ => True) ⟨_, ?_, k + 1, ?_, rfl, ?_⟩
      · omega
      · omega
      · exact Can.to (by repeat first | exact LessT.nil | refine LessT.drop ?_ | refine LessT.keep ?_ | refine LessT.eq (by simp) ?_) (by repeat first | exact .nil | refine .cons rfl rfl ?_)
    · refine TC.exit ?_
      -- exit 0
      show TC _ _ _ _ _ _
      refine TC.seq ?_
      -- region 6
      refine TC.region ?_
      refine TL.valE rfl (Val.move 1 rfl rfl) (by simp only [St.put, List.set_cons_succ, List.set_cons_zero]; rfl) ?_
      refine TL.valE rfl (Val.assign 1 rfl rfl) (by simp only [St.put, List.set_cons_succ, List.set_cons_zero]; rfl) ?_
      refine TL.nil ?_
      show TC _ _ _ _ _ _
      refine TC.ret ?_
      exact ⟨.inr rfl, [_], [_], _, rfl, by decide, rfl, by simp [refV, refC, valC], rfl, by simp at hb; rw [← fill_all (f := dIns) (z := (dIns (VIns.mk 0 0))) (k := k) (by omega)]; rfl⟩

-- loop.example/g00975/laws.toSlot: params ['laws.Slot = loop.example/g00975/laws.Slot'] results ['impl.Slot = loop.example/g00975/impl.Slot'] ('arr', [('app', 'Go.ResultVar.cell', ['2', '176'])])
theorem laws_toSlot_f (x : VSlot) : Fun Tryd.prog 150 [A (rSlot x)] (RP (A (rSlot x))) := by
  refine Fun.of Tryd.func150 rfl (by simp [Tryd.ntmps150]) fun w g0 => ?_
  simp only [Tryd.ntmps150, List.length_cons, List.length_nil, Nat.reduceAdd, Nat.reduceSub, List.replicate, List.cons_append, List.nil_append]
  refine TC.seq ?_
  -- region 0
  refine TC.region ?_
  refine TL.opK rfl fun K hK => ?_
  first | refine OpT.box rfl rfl (z := 1) rfl (by simp) ?_ | refine OpT.boxAgg rfl rfl rfl ?_ -- 1
  simp only [St.fresh, St.kill, St.setRoot, St.put, St.renew, TS.kill, TV.kill, C.kill, Rt.kill, boxC, List.map_cons, List.map_nil, List.filter_cons, List.filter_nil, List.set_cons_succ, List.set_cons_zero, List.contains_cons, List.contains_nil, Nat.reduceBEq, Nat.reduceBNe, St.wrote, hitR, hitP, shapeOf, List.isPrefixOf, List.append_eq, Bool.and_true, Bool.true_and, Bool.and_false, Bool.false_and, List.nil_append, List.cons_append, beq_self_eq_true, bne_self_eq_false, Bool.or_false, Bool.or_true, Bool.not_true, Bool.not_false, Bool.false_eq_true, if_true, if_false, reduceIte, resT, valsD, refsD, refD, nextD, nextsD, cellsD, isSl, List.append_nil]
  refine hK _ ?_
  clear hK K
  refine TL.opK rfl fun K hK => ?_
  refine OpT.alloc rfl rfl rfl rfl rfl rfl ?_ -- 2
  simp only [St.fresh, St.kill, St.setRoot, St.put, St.renew, TS.kill, TV.kill, C.kill, Rt.kill, boxC, List.map_cons, List.map_nil, List.filter_cons, List.filter_nil, List.set_cons_succ, List.set_cons_zero, List.contains_cons, List.contains_nil, Nat.reduceBEq, Nat.reduceBNe, St.wrote, hitR, hitP, shapeOf, List.isPrefixOf, List.append_eq, Bool.and_true, Bool.true_and, Bool.and_false, Bool.false_and, List.nil_append, List.cons_append, beq_self_eq_true, bne_self_eq_false, Bool.or_false, Bool.or_true, Bool.not_true, Bool.not_false, Bool.false_eq_true, if_true, if_false, reduceIte, resT, valsD, refsD, refD, nextD, nextsD, cellsD, isSl, List.append_nil]
  refine hK _ ?_
  clear hK K
  refine TL.nil ?_
  show TC _ _ _ _ _ _
  refine TC.seq ?_
  -- region 1
  refine TC.region ?_
  refine TL.opK rfl fun K hK => ?_
  refine OpT.alloc rfl rfl rfl rfl rfl rfl ?_ -- 3
  simp only [St.fresh, St.kill, St.setRoot, St.put, St.renew, TS.kill, TV.kill, C.kill, Rt.kill, boxC, List.map_cons, List.map_nil, List.filter_cons, List.filter_nil, List.set_cons_succ, List.set_cons_zero, List.contains_cons, List.contains_nil, Nat.reduceBEq, Nat.reduceBNe, St.wrote, hitR, hitP, shapeOf, List.isPrefixOf, List.append_eq, Bool.and_true, Bool.true_and, Bool.and_false, Bool.false_and, List.nil_append, List.cons_append, beq_self_eq_true, bne_self_eq_false, Bool.or_false, Bool.or_true, Bool.not_true, Bool.not_false, Bool.false_eq_true, if_true, if_false, reduceIte, resT, valsD, refsD, refD, nextD, nextsD, cellsD, isSl, List.append_nil]
  refine hK _ ?_
  clear hK K
  refine TL.nil ?_
  show TC _ _ _ _ _ _
  refine TC.seq ?_
  -- region 2
  refine TC.region ?_
  refine TL.valE rfl (by first | exact Val.field rfl rfl rfl | exact Val.fieldC rfl rfl rfl) (by simp only [St.put, List.set_cons_succ, List.set_cons_zero, List.getElem_toArray, List.getElem_cons_succ, List.getElem_cons_zero, Nat.zero_add, Nat.reduceAdd]; rfl) ?_
  refine TL.valE rfl (by first | exact Val.load rfl rfl rfl rfl rfl | exact Val.loadC rfl rfl rfl) (by simp only [St.put, List.set_cons_succ, List.set_cons_zero, valC]; rfl) ?_
  refine TL.valE rfl (by first | exact Val.field rfl rfl rfl | exact Val.fieldC rfl rfl rfl) (by simp only [St.put, List.set_cons_succ, List.set_cons_zero, List.getElem_toArray, List.getElem_cons_succ, List.getElem_cons_zero, Nat.zero_add, Nat.reduceAdd]; rfl) ?_
  refine TL.opK rfl fun K hK => ?_
  refine OpT.store (z := 1) rfl rfl rfl rfl rfl rfl (by simp [St.store1, St.storeAll, St.cellAt, St.isMem, St.root, St.wrote, St.kill, St.setRoot, TS.kill, TV.kill, C.kill, Rt.kill, hitR, hitP, shapeOf, setRow, setAt, rowAt, D.row, D.reRow, List.isPrefixOf]; rfl) ?_ -- None
  simp only [St.fresh, St.kill, St.setRoot, St.put, St.renew, TS.kill, TV.kill, C.kill, Rt.kill, boxC, List.map_cons, List.map_nil, List.filter_cons, List.filter_nil, List.set_cons_succ, List.set_cons_zero, List.contains_cons, List.contains_nil, Nat.reduceBEq, Nat.reduceBNe, St.wrote, hitR, hitP, shapeOf, List.isPrefixOf, List.append_eq, Bool.and_true, Bool.true_and, Bool.and_false, Bool.false_and, List.nil_append, List.cons_append, beq_self_eq_true, bne_self_eq_false, Bool.or_false, Bool.or_true, Bool.not_true, Bool.not_false, Bool.false_eq_true, if_true, if_false, reduceIte, resT, valsD, refsD, refD, nextD, nextsD, cellsD, isSl, List.append_nil]
  refine hK _ ?_
  clear hK K
  refine TL.nil ?_
  show TC _ _ _ _ _ _
  refine TC.seq ?_
  -- region 3
  refine TC.region ?_
  refine TL.valE rfl (by first | exact Val.field rfl rfl rfl | exact Val.fieldC rfl rfl rfl) (by simp only [St.put, List.set_cons_succ, List.set_cons_zero, List.getElem_toArray, List.getElem_cons_succ, List.getElem_cons_zero, Nat.zero_add, Nat.reduceAdd]; rfl) ?_
  refine TL.valE rfl (by first | exact Val.load rfl rfl rfl rfl rfl | exact Val.loadC rfl rfl rfl) (by simp only [St.put, List.set_cons_succ, List.set_cons_zero, valC]; rfl) ?_
  refine TL.valE rfl (by first | exact Val.field rfl rfl rfl | exact Val.fieldC rfl rfl rfl) (by simp only [St.put, List.set_cons_succ, List.set_cons_zero, List.getElem_toArray, List.getElem_cons_succ, List.getElem_cons_zero, Nat.zero_add, Nat.reduceAdd]; rfl) ?_
  refine TL.opK rfl fun K hK => ?_
  refine OpT.store (z := 1) rfl rfl rfl rfl rfl rfl (by simp [St.store1, St.storeAll, St.cellAt, St.isMem, St.root, St.wrote, St.kill, St.setRoot, TS.kill, TV.kill, C.kill, Rt.kill, hitR, hitP, shapeOf, setRow, setAt, rowAt, D.row, D.reRow, List.isPrefixOf]; rfl) ?_ -- None
  simp only [St.fresh, St.kill, St.setRoot, St.put, St.renew, TS.kill, TV.kill, C.kill, Rt.kill, boxC, List.map_cons, List.map_nil, List.filter_cons, List.filter_nil, List.set_cons_succ, List.set_cons_zero, List.contains_cons, List.contains_nil, Nat.reduceBEq, Nat.reduceBNe, St.wrote, hitR, hitP, shapeOf, List.isPrefixOf, List.append_eq, Bool.and_true, Bool.true_and, Bool.and_false, Bool.false_and, List.nil_append, List.cons_append, beq_self_eq_true, bne_self_eq_false, Bool.or_false, Bool.or_true, Bool.not_true, Bool.not_false, Bool.false_eq_true, if_true, if_false, reduceIte, resT, valsD, refsD, refD, nextD, nextsD, cellsD, isSl, List.append_nil]
  refine hK _ ?_
  clear hK K
  refine TL.nil ?_
  show TC _ _ _ _ _ _
  refine TC.seq ?_
  -- region 4
  refine TC.region ?_
  refine TL.valE rfl (by first | exact Val.loadCAgg (n := 2) rfl rfl rfl rfl (Nat.le_of_ble_eq_true rfl) | exact Val.loadAgg (n := 2) rfl rfl rfl rfl (by simp [St.cellsAt, St.cellAt, St.root, valC]; rfl) rfl | exact Val.loadAgg (n := 2) rfl rfl rfl rfl rfl rfl) (by simp only [St.put, List.set_cons_succ, List.set_cons_zero, valC, dSlot, rSlot, D.row, List.take_succ_cons, List.take_zero, List.map_cons, List.map_nil]; rfl) ?_
  refine TL.opK rfl fun K hK => ?_
  refine OpT.storeAgg rfl rfl rfl rfl rfl rfl (by simp [St.store1, St.storeAll, St.cellAt, St.isMem, St.root, St.wrote, St.kill, St.setRoot, TS.kill, TV.kill, C.kill, Rt.kill, hitR, hitP, shapeOf, setRow, setAt, rowAt, D.row, D.reRow, List.isPrefixOf]; rfl) ?_ -- None
  simp only [St.fresh, St.kill, St.setRoot, St.put, St.renew, TS.kill, TV.kill, C.kill, Rt.kill, boxC, List.map_cons, List.map_nil, List.filter_cons, List.filter_nil, List.set_cons_succ, List.set_cons_zero, List.contains_cons, List.contains_nil, Nat.reduceBEq, Nat.reduceBNe, St.wrote, hitR, hitP, shapeOf, List.isPrefixOf, List.append_eq, Bool.and_true, Bool.true_and, Bool.and_false, Bool.false_and, List.nil_append, List.cons_append, beq_self_eq_true, bne_self_eq_false, Bool.or_false, Bool.or_true, Bool.not_true, Bool.not_false, Bool.false_eq_true, if_true, if_false, reduceIte, resT, valsD, refsD, refD, nextD, nextsD, cellsD, isSl, List.append_nil]
  refine hK _ ?_
  clear hK K
  refine TL.nil ?_
  show TC _ _ _ _ _ _
  refine TC.ret ?_
  exact ⟨.inr rfl, [_], [_], _, rfl, by decide, rfl, by simp [refV, refC, valC], rfl, rfl⟩

-- loop.example/g00975/laws.toSlotS: params ['[]laws.Slot'] results ['[]impl.Slot'] ('arr', [('app', 'Go.ResultVar.tmp', ['2'])])
theorem laws_toSlotS_f (xs : List VSlot) (hmx : SmSlotS xs) : Fun Tryd.prog 130 [L 2 (xs.map dSlot)] (RL 2 (xs.map dSlot)) := by
  refine Fun.of Tryd.func130 rfl (by simp [Tryd.ntmps130]) fun w g0 => ?_
  simp only [Tryd.ntmps130, List.length_cons, List.length_nil, Nat.reduceAdd, Nat.reduceSub, List.replicate, List.cons_append, List.nil_append]
  have hlen : xs.length ≤ 1048576 := hmx
  refine TC.seq ?_
  -- region 0
  refine TC.region ?_
  refine TL.valE rfl (Val.assign 1 rfl rfl) (by simp only [St.put, List.set_cons_succ, List.set_cons_zero]; rfl) ?_
  refine TL.nil ?_
  show TC _ _ _ _ _ _
  refine TC.seq ?_
  -- region 1
  refine TC.region ?_
  refine TL.valE rfl (Val.move 1 rfl rfl) (by simp only [St.put, List.set_cons_succ, List.set_cons_zero]; rfl) ?_
  refine TL.valE rfl (by first | exact Val.len rfl rfl rfl rfl | exact Val.lenS rfl rfl rfl) (by simp only [St.put, List.set_cons_succ, List.set_cons_zero]; rfl) ?_
  refine TL.opK rfl fun K hK => ?_
  refine OpT.makeE (d := (dSlot (VSlot.mk 0 0))) rfl rfl rfl rfl rfl rfl rfl (sz := 2) rfl rfl rfl rfl rfl rfl rfl (by omega) (by simp; omega) ?_ -- 7
  simp only [St.fresh, St.kill, St.setRoot, St.put, St.renew, TS.kill, TV.kill, C.kill, Rt.kill, boxC, List.map_cons, List.map_nil, List.filter_cons, List.filter_nil, List.set_cons_succ, List.set_cons_zero, List.contains_cons, List.contains_nil, Nat.reduceBEq, Nat.reduceBNe, St.wrote, hitR, hitP, shapeOf, List.isPrefixOf, List.append_eq, Bool.and_true, Bool.true_and, Bool.and_false, Bool.false_and, List.nil_append, List.cons_append, beq_self_eq_true, bne_self_eq_false, Bool.or_false, Bool.or_true, Bool.not_true, Bool.not_false, Bool.false_eq_true, if_true, if_false, reduceIte, resT, valsD, refsD, refD, nextD, nextsD, cellsD, isSl, List.append_nil]
  refine hK _ ?_
  clear hK K
  refine TL.valE rfl (Val.assign 1 rfl rfl) (by simp only [St.put, List.set_cons_succ, List.set_cons_zero]; rfl) ?_
  refine TL.nil ?_
  show TC _ _ _ _ _ _
  refine TC.seq ?_
  refine TC.seq ?_
  -- region 2
  refine TC.region ?_
  refine TL.valE rfl (Val.assign 1 rfl rfl) (by simp only [St.put, List.set_cons_succ, List.set_cons_zero]; rfl) ?_
  refine TL.nil ?_
  show TC _ _ _ _ _ _
  refine TC.block ?_
  refine TC.loop (fun μ st => ∃ k : Nat, (k ≤ xs.length) ∧ μ = xs.length - k ∧ Can st ⟨[L 2 (xs.map dSlot), .one .dead, .one .dead, .one (.c (.ref ⟨7, [], 0⟩)), I k, .one .dead, .one .dead, .one .dead, .one .dead, .one .dead, .one .dead, .one .dead, .one .dead, .one .dead, .one .dead, .one .dead, .one .dead, .one .dead, .one .dead, .one .dead, .one .dead, .one .dead, .one .dead], [(7, ⟨false, [.own (.sl 2 (fill dSlot (dSlot (VSlot.mk 0 0)) xs k))]⟩)]⟩) (xs.length) ?_ fun μ st hI => ?_
  · refine ⟨0, by simp, by simp, ?_⟩
    exact Can.to (by repeat first | exact LessT.nil | refine LessT.drop ?_ | refine LessT.keep ?_ | refine LessT.eq (by simp) ?_) (.cons rfl (by simp [fill]) .nil)
  · obtain ⟨k, hyp, rfl, hcan⟩ := hI
    refine TC.can hcan ?_
    clear hcan
    refine TC.seq ?_
    refine TC.seq ?_
    -- region 3
    refine TC.region ?_
    refine TL.valE rfl (Val.move 1 rfl rfl) (by simp only [St.put, List.set_cons_succ, List.set_cons_zero]; rfl) ?_
    refine TL.valE rfl (Val.move 1 rfl rfl) (by simp only [St.put, List.set_cons_succ, List.set_cons_zero]; rfl) ?_
    refine TL.valE rfl (by first | exact Val.len rfl rfl rfl rfl | exact Val.lenS rfl rfl rfl) (by simp only [St.put, List.set_cons_succ, List.set_cons_zero]; rfl) ?_
    refine TL.valE rfl (Val.lss rfl rfl rfl) (by simp only [St.put, List.set_cons_succ, List.set_cons_zero]; rfl) ?_
    refine TL.nil ?_
    show TC _ _ _ _ _ _
    refine TC.cond rfl (fun hb => ?_) (fun hb => ?_)
    · refine TC.skip ?_
      show TC _ _ _ _ _ _
      refine TC.seq ?_
      refine TC.block ?_
      have hk : k < xs.length := by simpa using hb
      obtain ⟨x, hx⟩ := at_of (xs := xs) (k := k) hk
      have hg := fill_get (f := dSlot) (z := (dSlot (VSlot.mk 0 0))) hk
      have hs := fill_set (f := dSlot) (z := (dSlot (VSlot.mk 0 0))) hx
      -- region 5
      refine TC.region ?_
      refine TL.valE rfl (Val.move 1 rfl rfl) (by simp only [St.put, List.set_cons_succ, List.set_cons_zero]; rfl) ?_
      refine TL.valE rfl (Val.move 1 rfl rfl) (by simp only [St.put, List.set_cons_succ, List.set_cons_zero]; rfl) ?_
      refine TL.valE rfl (Val.move 1 rfl rfl) (by simp only [St.put, List.set_cons_succ, List.set_cons_zero]; rfl) ?_
      refine TL.valE rfl (Val.move 1 rfl rfl) (by simp only [St.put, List.set_cons_succ, List.set_cons_zero]; rfl) ?_
      refine TL.valE rfl (by exact Val.indexC (d := dSlot x) rfl rfl rfl rfl rfl (by omega) (by simp [hx])) (by simp only [St.put, List.set_cons_succ, List.set_cons_zero]; rfl) ?_
      refine TL.valE rfl (by first | exact Val.loadCAgg (n := 2) rfl rfl rfl rfl (Nat.le_of_ble_eq_true rfl) | exact Val.loadAgg (n := 2) rfl rfl rfl rfl (by simp [St.cellsAt, St.cellAt, St.root, valC]; rfl) rfl | exact Val.loadAgg (n := 2) rfl rfl rfl rfl rfl rfl) (by simp only [St.put, List.set_cons_succ, List.set_cons_zero, valC, dSlot, rSlot, D.row, List.take_succ_cons, List.take_zero, List.map_cons, List.map_nil]; rfl) ?_
      refine TL.callF (yes_none rfl) rfl rfl rfl rfl rfl rfl ((laws_toSlot_f x).k) (by repeat first | exact .nil | refine Snaps.cons (.ro _) ?_ | refine Snaps.cons (.aggRo rfl) ?_ | refine Snaps.cons (.cptr _) ?_ | refine Snaps.cons (.fn _) ?_ | refine Snaps.cons (.ownRef rfl (by first | assumption | exact w_IntS _ | exact w_IntSS _ | exact w_InsS _ | exact w_SlotS _ | exact w_GuestS _ | exact whole_map _ _ (fun w c hc => by simp only [D.row, List.mem_cons, List.not_mem_nil, or_false] at hc; subst hc; exact .v _))) ?_ | refine Snaps.cons (.aggR (by repeat first | exact .nil | refine SnapCs.cons (.ro _) ?_ | refine SnapCs.cons (.ref rfl (by first | assumption | exact w_IntS _ | exact w_IntSS _ | exact w_InsS _ | exact w_SlotS _ | exact w_GuestS _ | exact whole_map _ _ (fun w c hc => by simp only [D.row, List.mem_cons, List.not_mem_nil, or_false] at hc; subst hc; exact .v _))) ?_)) ?_) rfl (by simp only [St.put, List.set_cons_succ, List.set_cons_zero]; rfl) ?_
      refine TL.valE rfl (by exact Val.index rfl rfl rfl rfl rfl rfl (by omega) (by simp [fill_len]; omega)) (by simp only [St.put, List.set_cons_succ, List.set_cons_zero]; rfl) ?_
      refine TL.opK rfl fun K hK => ?_
      refine OpT.storeAgg rfl rfl rfl rfl rfl rfl (by simp [St.store1, St.storeAll, St.cellAt, St.isMem, St.root, St.wrote, St.kill, St.setRoot, TS.kill, TV.kill, C.kill, Rt.kill, hitR, hitP, shapeOf, setRow, setAt, rowAt, D.row, D.reRow, List.isPrefixOf, List.getElem?_set_self', List.set_set, hg, hs]; rfl) ?_
      simp only [St.fresh, St.kill, St.setRoot, St.put, St.renew, TS.kill, TV.kill, C.kill, Rt.kill, boxC, List.map_cons, List.map_nil, List.filter_cons, List.filter_nil, List.set_cons_succ, List.set_cons_zero, List.contains_cons, List.contains_nil, Nat.reduceBEq, Nat.reduceBNe, St.wrote, hitR, hitP, shapeOf, List.isPrefixOf, List.append_eq, Bool.and_true, Bool.true_and, Bool.and_false, Bool.false_and, List.nil_append, List.cons_append, beq_self_eq_true, bne_self_eq_false, Bool.or_false, Bool.or_true, Bool.not_true, Bool.not_false, Bool.false_eq_true, if_true, if_false, reduceIte, resT, valsD, refsD, refD, nextD, nextsD, cellsD, isSl, List.append_nil]
      refine hK _ ?_
      clear hK K
      refine TL.nil ?_
      show TC _ _ _ _ _ _
      -- region 4
      refine TC.region ?_
      refine TL.valE rfl (Val.move 1 rfl rfl) (by simp only [St.put, List.set_cons_succ, List.set_cons_zero]; rfl) ?_
      refine TL.valE rfl (Val.add rfl rfl rfl (by first | omega | (simp only [List.length_map]; omega)) (by first | omega | (simp only [List.length_map]; omega))) (by simp only [St.put, List.set_cons_succ, List.set_cons_zero]; rfl) ?_
      refine TL.valE rfl (Val.assign 1 rfl rfl) (by simp only [St.put, List.set_cons_succ, List.set_cons_zero]; rfl) ?_
      refine TL.nil ?_
      first | refine Seq.normal ⟨_, ?_, k + 1, ?_, rfl, ?_⟩ | refine Seq.normal (Q := fun _ _ => True) ⟨_, ?_, k + 1, ?_, rfl, ?_⟩
      · omega
      · omega
      · exact Can.to (by repeat first | exact LessT.nil | refine LessT.drop ?_ | refine LessT.keep ?_ | refine LessT.eq (by simp) ?_) (by repeat first | exact .nil | refine .cons rfl rfl ?_)
    · refine TC.exit ?_
      -- exit 0
      show TC _ _ _ _ _ _
      refine TC.seq ?_
      -- region 6
      refine TC.region ?_
      refine TL.valE rfl (Val.move 1 rfl rfl) (by simp only [St.put, List.set_cons_succ, List.set_cons_zero]; rfl) ?_
      refine TL.valE rfl (Val.assign 1 rfl rfl) (by simp only [St.put, List.set_cons_succ, List.set_cons_zero]; rfl) ?_
      refine TL.nil ?_
      show TC _ _ _ _ _ _
      refine TC.ret ?_
      exact ⟨.inr rfl, [_], [_], _, rfl, by decide, rfl, by simp [refV, refC, valC], rfl, by simp at hb; rw [← fill_all (f := dSlot) (z := (dSlot (VSlot.mk 0 0))) (k := k) (by omega)]; rfl⟩

-- loop.example/g00975/laws.toCtl: params ['laws.Ctl = loop.example/g00975/laws.Ctl'] results ['impl.Ctl = loop.example/g00975/impl.Ctl'] ('arr', [('app', 'Go.ResultVar.cell', ['2', '93'])])
theorem laws_toCtl_f (x : VCtl) : Fun Tryd.prog 131 [A (rCtl x)] (RP (A (rCtl x))) := by
  refine Fun.of Tryd.func131 rfl (by simp [Tryd.ntmps131]) fun w g0 => ?_
  simp only [Tryd.ntmps131, List.length_cons, List.length_nil, Nat.reduceAdd, Nat.reduceSub, List.replicate, List.cons_append, List.nil_append]
  refine TC.seq ?_
  -- region 0
  refine TC.region ?_
  refine TL.opK rfl fun K hK => ?_
  first | refine OpT.box rfl rfl (z := 1) rfl (by simp) ?_ | refine OpT.boxAgg rfl rfl rfl ?_ -- 1
  simp only [St.fresh, St.kill, St.setRoot, St.put, St.renew, TS.kill, TV.kill, C.kill, Rt.kill, boxC, List.map_cons, List.map_nil, List.filter_cons, List.filter_nil, List.set_cons_succ, List.set_cons_zero, List.contains_cons, List.contains_nil, Nat.reduceBEq, Nat.reduceBNe, St.wrote, hitR, hitP, shapeOf, List.isPrefixOf, List.append_eq, Bool.and_true, Bool.true_and, Bool.and_false, Bool.false_and, List.nil_append, List.cons_append, beq_self_eq_true, bne_self_eq_false, Bool.or_false, Bool.or_true, Bool.not_true, Bool.not_false, Bool.false_eq_true, if_true, if_false, reduceIte, resT, valsD, refsD, refD, nextD, nextsD, cellsD, isSl, List.append_nil]
  refine hK _ ?_
  clear hK K
  refine TL.opK rfl fun K hK => ?_
  refine OpT.alloc rfl rfl rfl rfl rfl rfl ?_ -- 2
  simp only [St.fresh, St.kill, St.setRoot, St.put, St.renew, TS.kill, TV.kill, C.kill, Rt.kill, boxC, List.map_cons, List.map_nil, List.filter_cons, List.filter_nil, List.set_cons_succ, List.set_cons_zero, List.contains_cons, List.contains_nil, Nat.reduceBEq, Nat.reduceBNe, St.wrote, hitR, hitP, shapeOf, List.isPrefixOf, List.append_eq, Bool.and_true, Bool.true_and, Bool.and_false, Bool.false_and, List.nil_append, List.cons_append, beq_self_eq_true, bne_self_eq_false, Bool.or_false, Bool.or_true, Bool.not_true, Bool.not_false, Bool.false_eq_true, if_true, if_false, reduceIte, resT, valsD, refsD, refD, nextD, nextsD, cellsD, isSl, List.append_nil]
  refine hK _ ?_
  clear hK K
  refine TL.nil ?_
  show TC _ _ _ _ _ _
  refine TC.seq ?_
  -- region 1
  refine TC.region ?_
  refine TL.opK rfl fun K hK => ?_
  refine OpT.alloc rfl rfl rfl rfl rfl rfl ?_ -- 3
  simp only [St.fresh, St.kill, St.setRoot, St.put, St.renew, TS.kill, TV.kill, C.kill, Rt.kill, boxC, List.map_cons, List.map_nil, List.filter_cons, List.filter_nil, List.set_cons_succ, List.set_cons_zero, List.contains_cons, List.contains_nil, Nat.reduceBEq, Nat.reduceBNe, St.wrote, hitR, hitP, shapeOf, List.isPrefixOf, List.append_eq, Bool.and_true, Bool.true_and, Bool.and_false, Bool.false_and, List.nil_append, List.cons_append, beq_self_eq_true, bne_self_eq_false, Bool.or_false, Bool.or_true, Bool.not_true, Bool.not_false, Bool.false_eq_true, if_true, if_false, reduceIte, resT, valsD, refsD, refD, nextD, nextsD, cellsD, isSl, List.append_nil]
  refine hK _ ?_
  clear hK K
  refine TL.nil ?_
  show TC _ _ _ _ _ _
  refine TC.seq ?_
  -- region 2
  refine TC.region ?_
  refine TL.valE rfl (by first | exact Val.field rfl rfl rfl | exact Val.fieldC rfl rfl rfl) (by simp only [St.put, List.set_cons_succ, List.set_cons_zero, List.getElem_toArray, List.getElem_cons_succ, List.getElem_cons_zero, Nat.zero_add, Nat.reduceAdd]; rfl) ?_
  refine TL.valE rfl (by first | exact Val.load rfl rfl rfl rfl rfl | exact Val.loadC rfl rfl rfl) (by simp only [St.put, List.set_cons_succ, List.set_cons_zero, valC]; rfl) ?_
  refine TL.valE rfl (by first | exact Val.field rfl rfl rfl | exact Val.fieldC rfl rfl rfl) (by simp only [St.put, List.set_cons_succ, List.set_cons_zero, List.getElem_toArray, List.getElem_cons_succ, List.getElem_cons_zero, Nat.zero_add, Nat.reduceAdd]; rfl) ?_
  refine TL.opK rfl fun K hK => ?_
  refine OpT.store (z := 1) rfl rfl rfl rfl rfl rfl (by simp [St.store1, St.storeAll, St.cellAt, St.isMem, St.root, St.wrote, St.kill, St.setRoot, TS.kill, TV.kill, C.kill, Rt.kill, hitR, hitP, shapeOf, setRow, setAt, rowAt, D.row, D.reRow, List.isPrefixOf]; rfl) ?_ -- None
  simp only [St.fresh, St.kill, St.setRoot, St.put, St.renew, TS.kill, TV.kill, C.kill, Rt.kill, boxC, List.map_cons, List.map_nil, List.filter_cons, List.filter_nil, List.set_cons_succ, List.set_cons_zero, List.contains_cons, List.contains_nil, Nat.reduceBEq, Nat.reduceBNe, St.wrote, hitR, hitP, shapeOf, List.isPrefixOf, List.append_eq, Bool.and_true, Bool.true_and, Bool.and_false, Bool.false_and, List.nil_append, List.cons_append, beq_self_eq_true, bne_self_eq_false, Bool.or_false, Bool.or_true, Bool.not_true, Bool.not_false, Bool.false_eq_true, if_true, if_false, reduceIte, resT, valsD, refsD, refD, nextD, nextsD, cellsD, isSl, List.append_nil]
  refine hK _ ?_
  clear hK K
  refine TL.nil ?_
  show TC _ _ _ _ _ _
  refine TC.seq ?_
  -- region 3
  refine TC.region ?_
  refine TL.valE rfl (by first | exact Val.field rfl rfl rfl | exact Val.fieldC rfl rfl rfl) (by simp only [St.put, List.set_cons_succ, List.set_cons_zero, List.getElem_toArray, List.getElem_cons_succ, List.getElem_cons_zero, Nat.zero_add, Nat.reduceAdd]; rfl) ?_
  refine TL.valE rfl (by first | exact Val.load rfl rfl rfl rfl rfl | exact Val.loadC rfl rfl rfl) (by simp only [St.put, List.set_cons_succ, List.set_cons_zero, valC]; rfl) ?_
  refine TL.valE rfl (by first | exact Val.field rfl rfl rfl | exact Val.fieldC rfl rfl rfl) (by simp only [St.put, List.set_cons_succ, List.set_cons_zero, List.getElem_toArray, List.getElem_cons_succ, List.getElem_cons_zero, Nat.zero_add, Nat.reduceAdd]; rfl) ?_
  refine TL.opK rfl fun K hK => ?_
  refine OpT.store (z := 1) rfl rfl rfl rfl rfl rfl (by simp [St.store1, St.storeAll, St.cellAt, St.isMem, St.root, St.wrote, St.kill, St.setRoot, TS.kill, TV.kill, C.kill, Rt.kill, hitR, hitP, shapeOf, setRow, setAt, rowAt, D.row, D.reRow, List.isPrefixOf]; rfl) ?_ -- None
  simp only [St.fresh, St.kill, St.setRoot, St.put, St.renew, TS.kill, TV.kill, C.kill, Rt.kill, boxC, List.map_cons, List.map_nil, List.filter_cons, List.filter_nil, List.set_cons_succ, List.set_cons_zero, List.contains_cons, List.contains_nil, Nat.reduceBEq, Nat.reduceBNe, St.wrote, hitR, hitP, shapeOf, List.isPrefixOf, List.append_eq, Bool.and_true, Bool.true_and, Bool.and_false, Bool.false_and, List.nil_append, List.cons_append, beq_self_eq_true, bne_self_eq_false, Bool.or_false, Bool.or_true, Bool.not_true, Bool.not_false, Bool.false_eq_true, if_true, if_false, reduceIte, resT, valsD, refsD, refD, nextD, nextsD, cellsD, isSl, List.append_nil]
  refine hK _ ?_
  clear hK K
  refine TL.nil ?_
  show TC _ _ _ _ _ _
  refine TC.seq ?_
  -- region 4
  refine TC.region ?_
  refine TL.valE rfl (by first | exact Val.field rfl rfl rfl | exact Val.fieldC rfl rfl rfl) (by simp only [St.put, List.set_cons_succ, List.set_cons_zero, List.getElem_toArray, List.getElem_cons_succ, List.getElem_cons_zero, Nat.zero_add, Nat.reduceAdd]; rfl) ?_
  refine TL.valE rfl (by first | exact Val.load rfl rfl rfl rfl rfl | exact Val.loadC rfl rfl rfl) (by simp only [St.put, List.set_cons_succ, List.set_cons_zero, valC]; rfl) ?_
  refine TL.valE rfl (by first | exact Val.field rfl rfl rfl | exact Val.fieldC rfl rfl rfl) (by simp only [St.put, List.set_cons_succ, List.set_cons_zero, List.getElem_toArray, List.getElem_cons_succ, List.getElem_cons_zero, Nat.zero_add, Nat.reduceAdd]; rfl) ?_
  refine TL.opK rfl fun K hK => ?_
  refine OpT.store (z := 1) rfl rfl rfl rfl rfl rfl (by simp [St.store1, St.storeAll, St.cellAt, St.isMem, St.root, St.wrote, St.kill, St.setRoot, TS.kill, TV.kill, C.kill, Rt.kill, hitR, hitP, shapeOf, setRow, setAt, rowAt, D.row, D.reRow, List.isPrefixOf]; rfl) ?_ -- None
  simp only [St.fresh, St.kill, St.setRoot, St.put, St.renew, TS.kill, TV.kill, C.kill, Rt.kill, boxC, List.map_cons, List.map_nil, List.filter_cons, List.filter_nil, List.set_cons_succ, List.set_cons_zero, List.contains_cons, List.contains_nil, Nat.reduceBEq, Nat.reduceBNe, St.wrote, hitR, hitP, shapeOf, List.isPrefixOf, List.append_eq, Bool.and_true, Bool.true_and, Bool.and_false, Bool.false_and, List.nil_append, List.cons_append, beq_self_eq_true, bne_self_eq_false, Bool.or_false, Bool.or_true, Bool.not_true, Bool.not_false, Bool.false_eq_true, if_true, if_false, reduceIte, resT, valsD, refsD, refD, nextD, nextsD, cellsD, isSl, List.append_nil]
  refine hK _ ?_
  clear hK K
  refine TL.nil ?_
  show TC _ _ _ _ _ _
  refine TC.seq ?_
  -- region 5
  refine TC.region ?_
  refine TL.valE rfl (by first | exact Val.loadCAgg (n := 3) rfl rfl rfl rfl (Nat.le_of_ble_eq_true rfl) | exact Val.loadAgg (n := 3) rfl rfl rfl rfl (by simp [St.cellsAt, St.cellAt, St.root, valC]; rfl) rfl | exact Val.loadAgg (n := 3) rfl rfl rfl rfl rfl rfl) (by simp only [St.put, List.set_cons_succ, List.set_cons_zero, valC, dCtl, rCtl, D.row, List.take_succ_cons, List.take_zero, List.map_cons, List.map_nil]; rfl) ?_
  refine TL.opK rfl fun K hK => ?_
  refine OpT.storeAgg rfl rfl rfl rfl rfl rfl (by simp [St.store1, St.storeAll, St.cellAt, St.isMem, St.root, St.wrote, St.kill, St.setRoot, TS.kill, TV.kill, C.kill, Rt.kill, hitR, hitP, shapeOf, setRow, setAt, rowAt, D.row, D.reRow, List.isPrefixOf]; rfl) ?_ -- None
  simp only [St.fresh, St.kill, St.setRoot, St.put, St.renew, TS.kill, TV.kill, C.kill, Rt.kill, boxC, List.map_cons, List.map_nil, List.filter_cons, List.filter_nil, List.set_cons_succ, List.set_cons_zero, List.contains_cons, List.contains_nil, Nat.reduceBEq, Nat.reduceBNe, St.wrote, hitR, hitP, shapeOf, List.isPrefixOf, List.append_eq, Bool.and_true, Bool.true_and, Bool.and_false, Bool.false_and, List.nil_append, List.cons_append, beq_self_eq_true, bne_self_eq_false, Bool.or_false, Bool.or_true, Bool.not_true, Bool.not_false, Bool.false_eq_true, if_true, if_false, reduceIte, resT, valsD, refsD, refD, nextD, nextsD, cellsD, isSl, List.append_nil]
  refine hK _ ?_
  clear hK K
  refine TL.nil ?_
  show TC _ _ _ _ _ _
  refine TC.ret ?_
  exact ⟨.inr rfl, [_], [_], _, rfl, by decide, rfl, by simp [refV, refC, valC], rfl, rfl⟩

-- loop.example/g00975/laws.toExit: params ['laws.Exit = loop.example/g00975/laws.Exit'] results ['impl.Exit = loop.example/g00975/impl.Exit'] ('arr', [('app', 'Go.ResultVar.cell', ['2', '95'])])
theorem laws_toExit_f (x : VExit) : Fun Tryd.prog 132 [A (rExit x)] (RP (A (rExit x))) := by
  refine Fun.of Tryd.func132 rfl (by simp [Tryd.ntmps132]) fun w g0 => ?_
  simp only [Tryd.ntmps132, List.length_cons, List.length_nil, Nat.reduceAdd, Nat.reduceSub, List.replicate, List.cons_append, List.nil_append]
  refine TC.seq ?_
  -- region 0
  refine TC.region ?_
  refine TL.opK rfl fun K hK => ?_
  first | refine OpT.box rfl rfl (z := 1) rfl (by simp) ?_ | refine OpT.boxAgg rfl rfl rfl ?_ -- 1
  simp only [St.fresh, St.kill, St.setRoot, St.put, St.renew, TS.kill, TV.kill, C.kill, Rt.kill, boxC, List.map_cons, List.map_nil, List.filter_cons, List.filter_nil, List.set_cons_succ, List.set_cons_zero, List.contains_cons, List.contains_nil, Nat.reduceBEq, Nat.reduceBNe, St.wrote, hitR, hitP, shapeOf, List.isPrefixOf, List.append_eq, Bool.and_true, Bool.true_and, Bool.and_false, Bool.false_and, List.nil_append, List.cons_append, beq_self_eq_true, bne_self_eq_false, Bool.or_false, Bool.or_true, Bool.not_true, Bool.not_false, Bool.false_eq_true, if_true, if_false, reduceIte, resT, valsD, refsD, refD, nextD, nextsD, cellsD, isSl, List.append_nil]
  refine hK _ ?_
  clear hK K
  refine TL.opK rfl fun K hK => ?_
  refine OpT.alloc rfl rfl rfl rfl rfl rfl ?_ -- 2
  simp only [St.fresh, St.kill, St.setRoot, St.put, St.renew, TS.kill, TV.kill, C.kill, Rt.kill, boxC, List.map_cons, List.map_nil, List.filter_cons, List.filter_nil, List.set_cons_succ, List.set_cons_zero, List.contains_cons, List.contains_nil, Nat.reduceBEq, Nat.reduceBNe, St.wrote, hitR, hitP, shapeOf, List.isPrefixOf, List.append_eq, Bool.and_true, Bool.true_and, Bool.and_false, Bool.false_and, List.nil_append, List.cons_append, beq_self_eq_true, bne_self_eq_false, Bool.or_false, Bool.or_true, Bool.not_true, Bool.not_false, Bool.false_eq_true, if_true, if_false, reduceIte, resT, valsD, refsD, refD, nextD, nextsD, cellsD, isSl, List.append_nil]
  refine hK _ ?_
  clear hK K
  refine TL.nil ?_
  show TC _ _ _ _ _ _
  refine TC.seq ?_
  -- region 1
  refine TC.region ?_
  refine TL.opK rfl fun K hK => ?_
  refine OpT.alloc rfl rfl rfl rfl rfl rfl ?_ -- 3
  simp only [St.fresh, St.kill, St.setRoot, St.put, St.renew, TS.kill, TV.kill, C.kill, Rt.kill, boxC, List.map_cons, List.map_nil, List.filter_cons, List.filter_nil, List.set_cons_succ, List.set_cons_zero, List.contains_cons, List.contains_nil, Nat.reduceBEq, Nat.reduceBNe, St.wrote, hitR, hitP, shapeOf, List.isPrefixOf, List.append_eq, Bool.and_true, Bool.true_and, Bool.and_false, Bool.false_and, List.nil_append, List.cons_append, beq_self_eq_true, bne_self_eq_false, Bool.or_false, Bool.or_true, Bool.not_true, Bool.not_false, Bool.false_eq_true, if_true, if_false, reduceIte, resT, valsD, refsD, refD, nextD, nextsD, cellsD, isSl, List.append_nil]
  refine hK _ ?_
  clear hK K
  refine TL.nil ?_
  show TC _ _ _ _ _ _
  refine TC.seq ?_
  -- region 2
  refine TC.region ?_
  refine TL.valE rfl (by first | exact Val.field rfl rfl rfl | exact Val.fieldC rfl rfl rfl) (by simp only [St.put, List.set_cons_succ, List.set_cons_zero, List.getElem_toArray, List.getElem_cons_succ, List.getElem_cons_zero, Nat.zero_add, Nat.reduceAdd]; rfl) ?_
  refine TL.valE rfl (by first | exact Val.load rfl rfl rfl rfl rfl | exact Val.loadC rfl rfl rfl) (by simp only [St.put, List.set_cons_succ, List.set_cons_zero, valC]; rfl) ?_
  refine TL.valE rfl (by first | exact Val.field rfl rfl rfl | exact Val.fieldC rfl rfl rfl) (by simp only [St.put, List.set_cons_succ, List.set_cons_zero, List.getElem_toArray, List.getElem_cons_succ, List.getElem_cons_zero, Nat.zero_add, Nat.reduceAdd]; rfl) ?_
  refine TL.opK rfl fun K hK => ?_
  refine OpT.store (z := 1) rfl rfl rfl rfl rfl rfl (by simp [St.store1, St.storeAll, St.cellAt, St.isMem, St.root, St.wrote, St.kill, St.setRoot, TS.kill, TV.kill, C.kill, Rt.kill, hitR, hitP, shapeOf, setRow, setAt, rowAt, D.row, D.reRow, List.isPrefixOf]; rfl) ?_ -- None
  simp only [St.fresh, St.kill, St.setRoot, St.put, St.renew, TS.kill, TV.kill, C.kill, Rt.kill, boxC, List.map_cons, List.map_nil, List.filter_cons, List.filter_nil, List.set_cons_succ, List.set_cons_zero, List.contains_cons, List.contains_nil, Nat.reduceBEq, Nat.reduceBNe, St.wrote, hitR, hitP, shapeOf, List.isPrefixOf, List.append_eq, Bool.and_true, Bool.true_and, Bool.and_false, Bool.false_and, List.nil_append, List.cons_append, beq_self_eq_true, bne_self_eq_false, Bool.or_false, Bool.or_true, Bool.not_true, Bool.not_false, Bool.false_eq_true, if_true, if_false, reduceIte, resT, valsD, refsD, refD, nextD, nextsD, cellsD, isSl, List.append_nil]
  refine hK _ ?_
  clear hK K
  refine TL.nil ?_
  show TC _ _ _ _ _ _
  refine TC.seq ?_
  -- region 3
  refine TC.region ?_
  refine TL.valE rfl (by first | exact Val.field rfl rfl rfl | exact Val.fieldC rfl rfl rfl) (by simp only [St.put, List.set_cons_succ, List.set_cons_zero, List.getElem_toArray, List.getElem_cons_succ, List.getElem_cons_zero, Nat.zero_add, Nat.reduceAdd]; rfl) ?_
  refine TL.valE rfl (by first | exact Val.load rfl rfl rfl rfl rfl | exact Val.loadC rfl rfl rfl) (by simp only [St.put, List.set_cons_succ, List.set_cons_zero, valC]; rfl) ?_
  refine TL.valE rfl (by first | exact Val.field rfl rfl rfl | exact Val.fieldC rfl rfl rfl) (by simp only [St.put, List.set_cons_succ, List.set_cons_zero, List.getElem_toArray, List.getElem_cons_succ, List.getElem_cons_zero, Nat.zero_add, Nat.reduceAdd]; rfl) ?_
  refine TL.opK rfl fun K hK => ?_
  refine OpT.store (z := 1) rfl rfl rfl rfl rfl rfl (by simp [St.store1, St.storeAll, St.cellAt, St.isMem, St.root, St.wrote, St.kill, St.setRoot, TS.kill, TV.kill, C.kill, Rt.kill, hitR, hitP, shapeOf, setRow, setAt, rowAt, D.row, D.reRow, List.isPrefixOf]; rfl) ?_ -- None
  simp only [St.fresh, St.kill, St.setRoot, St.put, St.renew, TS.kill, TV.kill, C.kill, Rt.kill, boxC, List.map_cons, List.map_nil, List.filter_cons, List.filter_nil, List.set_cons_succ, List.set_cons_zero, List.contains_cons, List.contains_nil, Nat.reduceBEq, Nat.reduceBNe, St.wrote, hitR, hitP, shapeOf, List.isPrefixOf, List.append_eq, Bool.and_true, Bool.true_and, Bool.and_false, Bool.false_and, List.nil_append, List.cons_append, beq_self_eq_true, bne_self_eq_false, Bool.or_false, Bool.or_true, Bool.not_true, Bool.not_false, Bool.false_eq_true, if_true, if_false, reduceIte, resT, valsD, refsD, refD, nextD, nextsD, cellsD, isSl, List.append_nil]
  refine hK _ ?_
  clear hK K
  refine TL.nil ?_
  show TC _ _ _ _ _ _
  refine TC.seq ?_
  -- region 4
  refine TC.region ?_
  refine TL.valE rfl (by first | exact Val.field rfl rfl rfl | exact Val.fieldC rfl rfl rfl) (by simp only [St.put, List.set_cons_succ, List.set_cons_zero, List.getElem_toArray, List.getElem_cons_succ, List.getElem_cons_zero, Nat.zero_add, Nat.reduceAdd]; rfl) ?_
  refine TL.valE rfl (by first | exact Val.load rfl rfl rfl rfl rfl | exact Val.loadC rfl rfl rfl) (by simp only [St.put, List.set_cons_succ, List.set_cons_zero, valC]; rfl) ?_
  refine TL.valE rfl (by first | exact Val.field rfl rfl rfl | exact Val.fieldC rfl rfl rfl) (by simp only [St.put, List.set_cons_succ, List.set_cons_zero, List.getElem_toArray, List.getElem_cons_succ, List.getElem_cons_zero, Nat.zero_add, Nat.reduceAdd]; rfl) ?_
  refine TL.opK rfl fun K hK => ?_
  refine OpT.store (z := 1) rfl rfl rfl rfl rfl rfl (by simp [St.store1, St.storeAll, St.cellAt, St.isMem, St.root, St.wrote, St.kill, St.setRoot, TS.kill, TV.kill, C.kill, Rt.kill, hitR, hitP, shapeOf, setRow, setAt, rowAt, D.row, D.reRow, List.isPrefixOf]; rfl) ?_ -- None
  simp only [St.fresh, St.kill, St.setRoot, St.put, St.renew, TS.kill, TV.kill, C.kill, Rt.kill, boxC, List.map_cons, List.map_nil, List.filter_cons, List.filter_nil, List.set_cons_succ, List.set_cons_zero, List.contains_cons, List.contains_nil, Nat.reduceBEq, Nat.reduceBNe, St.wrote, hitR, hitP, shapeOf, List.isPrefixOf, List.append_eq, Bool.and_true, Bool.true_and, Bool.and_false, Bool.false_and, List.nil_append, List.cons_append, beq_self_eq_true, bne_self_eq_false, Bool.or_false, Bool.or_true, Bool.not_true, Bool.not_false, Bool.false_eq_true, if_true, if_false, reduceIte, resT, valsD, refsD, refD, nextD, nextsD, cellsD, isSl, List.append_nil]
  refine hK _ ?_
  clear hK K
  refine TL.nil ?_
  show TC _ _ _ _ _ _
  refine TC.seq ?_
  -- region 5
  refine TC.region ?_
  refine TL.valE rfl (by first | exact Val.field rfl rfl rfl | exact Val.fieldC rfl rfl rfl) (by simp only [St.put, List.set_cons_succ, List.set_cons_zero, List.getElem_toArray, List.getElem_cons_succ, List.getElem_cons_zero, Nat.zero_add, Nat.reduceAdd]; rfl) ?_
  refine TL.valE rfl (by first | exact Val.load rfl rfl rfl rfl rfl | exact Val.loadC rfl rfl rfl) (by simp only [St.put, List.set_cons_succ, List.set_cons_zero, valC]; rfl) ?_
  refine TL.valE rfl (by first | exact Val.field rfl rfl rfl | exact Val.fieldC rfl rfl rfl) (by simp only [St.put, List.set_cons_succ, List.set_cons_zero, List.getElem_toArray, List.getElem_cons_succ, List.getElem_cons_zero, Nat.zero_add, Nat.reduceAdd]; rfl) ?_
  refine TL.opK rfl fun K hK => ?_
  refine OpT.store (z := 1) rfl rfl rfl rfl rfl rfl (by simp [St.store1, St.storeAll, St.cellAt, St.isMem, St.root, St.wrote, St.kill, St.setRoot, TS.kill, TV.kill, C.kill, Rt.kill, hitR, hitP, shapeOf, setRow, setAt, rowAt, D.row, D.reRow, List.isPrefixOf]; rfl) ?_ -- None
  simp only [St.fresh, St.kill, St.setRoot, St.put, St.renew, TS.kill, TV.kill, C.kill, Rt.kill, boxC, List.map_cons, List.map_nil, List.filter_cons, List.filter_nil, List.set_cons_succ, List.set_cons_zero, List.contains_cons, List.contains_nil, Nat.reduceBEq, Nat.reduceBNe, St.wrote, hitR, hitP, shapeOf, List.isPrefixOf, List.append_eq, Bool.and_true, Bool.true_and, Bool.and_false, Bool.false_and, List.nil_append, List.cons_append, beq_self_eq_true, bne_self_eq_false, Bool.or_false, Bool.or_true, Bool.not_true, Bool.not_false, Bool.false_eq_true, if_true, if_false, reduceIte, resT, valsD, refsD, refD, nextD, nextsD, cellsD, isSl, List.append_nil]
  refine hK _ ?_
  clear hK K
  refine TL.nil ?_
  show TC _ _ _ _ _ _
  refine TC.seq ?_
  -- region 6
  refine TC.region ?_
  refine TL.valE rfl (by first | exact Val.loadCAgg (n := 4) rfl rfl rfl rfl (Nat.le_of_ble_eq_true rfl) | exact Val.loadAgg (n := 4) rfl rfl rfl rfl (by simp [St.cellsAt, St.cellAt, St.root, valC]; rfl) rfl | exact Val.loadAgg (n := 4) rfl rfl rfl rfl rfl rfl) (by simp only [St.put, List.set_cons_succ, List.set_cons_zero, valC, dExit, rExit, D.row, List.take_succ_cons, List.take_zero, List.map_cons, List.map_nil]; rfl) ?_
  refine TL.opK rfl fun K hK => ?_
  refine OpT.storeAgg rfl rfl rfl rfl rfl rfl (by simp [St.store1, St.storeAll, St.cellAt, St.isMem, St.root, St.wrote, St.kill, St.setRoot, TS.kill, TV.kill, C.kill, Rt.kill, hitR, hitP, shapeOf, setRow, setAt, rowAt, D.row, D.reRow, List.isPrefixOf]; rfl) ?_ -- None
  simp only [St.fresh, St.kill, St.setRoot, St.put, St.renew, TS.kill, TV.kill, C.kill, Rt.kill, boxC, List.map_cons, List.map_nil, List.filter_cons, List.filter_nil, List.set_cons_succ, List.set_cons_zero, List.contains_cons, List.contains_nil, Nat.reduceBEq, Nat.reduceBNe, St.wrote, hitR, hitP, shapeOf, List.isPrefixOf, List.append_eq, Bool.and_true, Bool.true_and, Bool.and_false, Bool.false_and, List.nil_append, List.cons_append, beq_self_eq_true, bne_self_eq_false, Bool.or_false, Bool.or_true, Bool.not_true, Bool.not_false, Bool.false_eq_true, if_true, if_false, reduceIte, resT, valsD, refsD, refD, nextD, nextsD, cellsD, isSl, List.append_nil]
  refine hK _ ?_
  clear hK K
  refine TL.nil ?_
  show TC _ _ _ _ _ _
  refine TC.ret ?_
  exact ⟨.inr rfl, [_], [_], _, rfl, by decide, rfl, by simp [refV, refC, valC], rfl, rfl⟩

-- loop.example/g00975/laws.toGuest: params ['laws.Guest = loop.example/g00975/laws.Guest'] results ['impl.Guest = loop.example/g00975/impl.Guest'] ('arr', [('app', 'Go.ResultVar.cell', ['2', '97'])])
theorem laws_toGuest_f (x : VGuest) (hmx : SmGuest x) : Fun Tryd.prog 100 [A (rGuest x)] (RG [.a (rGuest x)]) := by
  refine Fun.of Tryd.func100 rfl (by simp [Tryd.ntmps100]) fun w g0 => ?_
  simp only [Tryd.ntmps100, List.length_cons, List.length_nil, Nat.reduceAdd, Nat.reduceSub, List.replicate, List.cons_append, List.nil_append]
  refine TC.seq ?_
  -- region 0
  refine TC.region ?_
  refine TL.opK rfl fun K hK => ?_
  first | refine OpT.box rfl rfl (z := 1) rfl (by simp) ?_ | refine OpT.boxAgg rfl rfl rfl ?_ -- 1
  simp only [St.fresh, St.kill, St.setRoot, St.put, St.renew, TS.kill, TV.kill, C.kill, Rt.kill, boxC, List.map_cons, List.map_nil, List.filter_cons, List.filter_nil, List.set_cons_succ, List.set_cons_zero, List.contains_cons, List.contains_nil, Nat.reduceBEq, Nat.reduceBNe, St.wrote, hitR, hitP, shapeOf, List.isPrefixOf, List.append_eq, Bool.and_true, Bool.true_and, Bool.and_false, Bool.false_and, List.nil_append, List.cons_append, beq_self_eq_true, bne_self_eq_false, Bool.or_false, Bool.or_true, Bool.not_true, Bool.not_false, Bool.false_eq_true, if_true, if_false, reduceIte, resT, valsD, refsD, refD, nextD, nextsD, cellsD, isSl, List.append_nil]
  refine hK _ ?_
  clear hK K
  refine TL.opK rfl fun K hK => ?_
  refine OpT.alloc rfl rfl rfl rfl rfl rfl ?_ -- 2
  simp only [St.fresh, St.kill, St.setRoot, St.put, St.renew, TS.kill, TV.kill, C.kill, Rt.kill, boxC, List.map_cons, List.map_nil, List.filter_cons, List.filter_nil, List.set_cons_succ, List.set_cons_zero, List.contains_cons, List.contains_nil, Nat.reduceBEq, Nat.reduceBNe, St.wrote, hitR, hitP, shapeOf, List.isPrefixOf, List.append_eq, Bool.and_true, Bool.true_and, Bool.and_false, Bool.false_and, List.nil_append, List.cons_append, beq_self_eq_true, bne_self_eq_false, Bool.or_false, Bool.or_true, Bool.not_true, Bool.not_false, Bool.false_eq_true, if_true, if_false, reduceIte, resT, valsD, refsD, refD, nextD, nextsD, cellsD, isSl, List.append_nil]
  refine hK _ ?_
  clear hK K
  refine TL.nil ?_
  show TC _ _ _ _ _ _
  refine TC.seq ?_
  -- region 1
  refine TC.region ?_
  refine TL.opK rfl fun K hK => ?_
  refine OpT.alloc rfl rfl rfl rfl rfl rfl ?_ -- 3
  simp only [St.fresh, St.kill, St.setRoot, St.put, St.renew, TS.kill, TV.kill, C.kill, Rt.kill, boxC, List.map_cons, List.map_nil, List.filter_cons, List.filter_nil, List.set_cons_succ, List.set_cons_zero, List.contains_cons, List.contains_nil, Nat.reduceBEq, Nat.reduceBNe, St.wrote, hitR, hitP, shapeOf, List.isPrefixOf, List.append_eq, Bool.and_true, Bool.true_and, Bool.and_false, Bool.false_and, List.nil_append, List.cons_append, beq_self_eq_true, bne_self_eq_false, Bool.or_false, Bool.or_true, Bool.not_true, Bool.not_false, Bool.false_eq_true, if_true, if_false, reduceIte, resT, valsD, refsD, refD, nextD, nextsD, cellsD, isSl, List.append_nil]
  refine hK _ ?_
  clear hK K
  refine TL.nil ?_
  show TC _ _ _ _ _ _
  refine TC.seq ?_
  -- region 2
  refine TC.region ?_
  refine TL.valE rfl (by first | exact Val.field rfl rfl rfl | exact Val.fieldC rfl rfl rfl) (by simp only [St.put, List.set_cons_succ, List.set_cons_zero, List.getElem_toArray, List.getElem_cons_succ, List.getElem_cons_zero, Nat.zero_add, Nat.reduceAdd]; rfl) ?_
  refine TL.valE rfl (by first | exact Val.load rfl rfl rfl rfl rfl | exact Val.loadC rfl rfl rfl) (by simp only [St.put, List.set_cons_succ, List.set_cons_zero, valC]; rfl) ?_
  refine TL.opK rfl fun K hK => ?_
  refine OpT.callL rfl rfl rfl rfl rfl rfl ((laws_toInsS_f x.Prog hmx.1).k) (by repeat first | exact .nil | refine Snaps.cons (.ro _) ?_ | refine Snaps.cons (.aggRo rfl) ?_ | refine Snaps.cons (.cptr _) ?_ | refine Snaps.cons (.fn _) ?_ | refine Snaps.cons (.ownRef rfl (by first | assumption | exact w_IntS _ | exact w_IntSS _ | exact w_InsS _ | exact w_SlotS _ | exact w_GuestS _ | exact whole_map _ _ (fun w c hc => by simp only [D.row, List.mem_cons, List.not_mem_nil, or_false] at hc; subst hc; exact .v _))) ?_ | refine Snaps.cons (.aggR (by repeat first | exact .nil | refine SnapCs.cons (.ro _) ?_ | refine SnapCs.cons (.ref rfl (by first | assumption | exact w_IntS _ | exact w_IntSS _ | exact w_InsS _ | exact w_SlotS _ | exact w_GuestS _ | exact whole_map _ _ (fun w c hc => by simp only [D.row, List.mem_cons, List.not_mem_nil, or_false] at hc; subst hc; exact .v _))) ?_)) ?_) ?_ -- 6
  simp only [St.fresh, St.kill, St.setRoot, St.put, St.renew, TS.kill, TV.kill, C.kill, Rt.kill, boxC, List.map_cons, List.map_nil, List.filter_cons, List.filter_nil, List.set_cons_succ, List.set_cons_zero, List.contains_cons, List.contains_nil, Nat.reduceBEq, Nat.reduceBNe, St.wrote, hitR, hitP, shapeOf, List.isPrefixOf, List.append_eq, Bool.and_true, Bool.true_and, Bool.and_false, Bool.false_and, List.nil_append, List.cons_append, beq_self_eq_true, bne_self_eq_false, Bool.or_false, Bool.or_true, Bool.not_true, Bool.not_false, Bool.false_eq_true, if_true, if_false, reduceIte, resT, valsD, refsD, refD, nextD, nextsD, cellsD, isSl, List.append_nil]
  refine hK _ ?_
  clear hK K
  refine TL.valE rfl (by first | exact Val.field rfl rfl rfl | exact Val.fieldC rfl rfl rfl) (by simp only [St.put, List.set_cons_succ, List.set_cons_zero, List.getElem_toArray, List.getElem_cons_succ, List.getElem_cons_zero, Nat.zero_add, Nat.reduceAdd]; rfl) ?_
  refine TL.opK rfl fun K hK => ?_
  refine OpT.store (z := 1) rfl rfl rfl rfl rfl rfl (by simp [St.store1, St.storeAll, St.cellAt, St.isMem, St.root, St.wrote, St.kill, St.setRoot, TS.kill, TV.kill, C.kill, Rt.kill, hitR, hitP, shapeOf, setRow, setAt, rowAt, D.row, D.reRow, List.isPrefixOf]; rfl) ?_ -- None
  simp only [St.fresh, St.kill, St.setRoot, St.put, St.renew, TS.kill, TV.kill, C.kill, Rt.kill, boxC, List.map_cons, List.map_nil, List.filter_cons, List.filter_nil, List.set_cons_succ, List.set_cons_zero, List.contains_cons, List.contains_nil, Nat.reduceBEq, Nat.reduceBNe, St.wrote, hitR, hitP, shapeOf, List.isPrefixOf, List.append_eq, Bool.and_true, Bool.true_and, Bool.and_false, Bool.false_and, List.nil_append, List.cons_append, beq_self_eq_true, bne_self_eq_false, Bool.or_false, Bool.or_true, Bool.not_true, Bool.not_false, Bool.false_eq_true, if_true, if_false, reduceIte, resT, valsD, refsD, refD, nextD, nextsD, cellsD, isSl, List.append_nil]
  refine hK _ ?_
  clear hK K
  refine TL.nil ?_
  show TC _ _ _ _ _ _
  refine TC.seq ?_
  -- region 3
  refine TC.region ?_
  refine TL.valE rfl (by first | exact Val.field rfl rfl rfl | exact Val.fieldC rfl rfl rfl) (by simp only [St.put, List.set_cons_succ, List.set_cons_zero, List.getElem_toArray, List.getElem_cons_succ, List.getElem_cons_zero, Nat.zero_add, Nat.reduceAdd]; rfl) ?_
  refine TL.valE rfl (by first | exact Val.load rfl rfl rfl rfl rfl | exact Val.loadC rfl rfl rfl) (by simp only [St.put, List.set_cons_succ, List.set_cons_zero, valC]; rfl) ?_
  refine TL.valE rfl (by first | exact Val.field rfl rfl rfl | exact Val.fieldC rfl rfl rfl) (by simp only [St.put, List.set_cons_succ, List.set_cons_zero, List.getElem_toArray, List.getElem_cons_succ, List.getElem_cons_zero, Nat.zero_add, Nat.reduceAdd]; rfl) ?_
  refine TL.opK rfl fun K hK => ?_
  refine OpT.store (z := 1) rfl rfl rfl rfl rfl rfl (by simp [St.store1, St.storeAll, St.cellAt, St.isMem, St.root, St.wrote, St.kill, St.setRoot, TS.kill, TV.kill, C.kill, Rt.kill, hitR, hitP, shapeOf, setRow, setAt, rowAt, D.row, D.reRow, List.isPrefixOf]; rfl) ?_ -- None
  simp only [St.fresh, St.kill, St.setRoot, St.put, St.renew, TS.kill, TV.kill, C.kill, Rt.kill, boxC, List.map_cons, List.map_nil, List.filter_cons, List.filter_nil, List.set_cons_succ, List.set_cons_zero, List.contains_cons, List.contains_nil, Nat.reduceBEq, Nat.reduceBNe, St.wrote, hitR, hitP, shapeOf, List.isPrefixOf, List.append_eq, Bool.and_true, Bool.true_and, Bool.and_false, Bool.false_and, List.nil_append, List.cons_append, beq_self_eq_true, bne_self_eq_false, Bool.or_false, Bool.or_true, Bool.not_true, Bool.not_false, Bool.false_eq_true, if_true, if_false, reduceIte, resT, valsD, refsD, refD, nextD, nextsD, cellsD, isSl, List.append_nil]
  refine hK _ ?_
  clear hK K
  refine TL.nil ?_
  show TC _ _ _ _ _ _
  refine TC.seq ?_
  -- region 4
  refine TC.region ?_
  refine TL.valE rfl (by first | exact Val.field rfl rfl rfl | exact Val.fieldC rfl rfl rfl) (by simp only [St.put, List.set_cons_succ, List.set_cons_zero, List.getElem_toArray, List.getElem_cons_succ, List.getElem_cons_zero, Nat.zero_add, Nat.reduceAdd]; rfl) ?_
  refine TL.valE rfl (by first | exact Val.load rfl rfl rfl rfl rfl | exact Val.loadC rfl rfl rfl) (by simp only [St.put, List.set_cons_succ, List.set_cons_zero, valC]; rfl) ?_
  refine TL.valE rfl (by first | exact Val.field rfl rfl rfl | exact Val.fieldC rfl rfl rfl) (by simp only [St.put, List.set_cons_succ, List.set_cons_zero, List.getElem_toArray, List.getElem_cons_succ, List.getElem_cons_zero, Nat.zero_add, Nat.reduceAdd]; rfl) ?_
  refine TL.opK rfl fun K hK => ?_
  refine OpT.store (z := 1) rfl rfl rfl rfl rfl rfl (by simp [St.store1, St.storeAll, St.cellAt, St.isMem, St.root, St.wrote, St.kill, St.setRoot, TS.kill, TV.kill, C.kill, Rt.kill, hitR, hitP, shapeOf, setRow, setAt, rowAt, D.row, D.reRow, List.isPrefixOf]; rfl) ?_ -- None
  simp only [St.fresh, St.kill, St.setRoot, St.put, St.renew, TS.kill, TV.kill, C.kill, Rt.kill, boxC, List.map_cons, List.map_nil, List.filter_cons, List.filter_nil, List.set_cons_succ, List.set_cons_zero, List.contains_cons, List.contains_nil, Nat.reduceBEq, Nat.reduceBNe, St.wrote, hitR, hitP, shapeOf, List.isPrefixOf, List.append_eq, Bool.and_true, Bool.true_and, Bool.and_false, Bool.false_and, List.nil_append, List.cons_append, beq_self_eq_true, bne_self_eq_false, Bool.or_false, Bool.or_true, Bool.not_true, Bool.not_false, Bool.false_eq_true, if_true, if_false, reduceIte, resT, valsD, refsD, refD, nextD, nextsD, cellsD, isSl, List.append_nil]
  refine hK _ ?_
  clear hK K
  refine TL.nil ?_
  show TC _ _ _ _ _ _
  refine TC.seq ?_
  -- region 5
  refine TC.region ?_
  refine TL.valE rfl (by first | exact Val.field rfl rfl rfl | exact Val.fieldC rfl rfl rfl) (by simp only [St.put, List.set_cons_succ, List.set_cons_zero, List.getElem_toArray, List.getElem_cons_succ, List.getElem_cons_zero, Nat.zero_add, Nat.reduceAdd]; rfl) ?_
  refine TL.valE rfl (by first | exact Val.load rfl rfl rfl rfl rfl | exact Val.loadC rfl rfl rfl) (by simp only [St.put, List.set_cons_succ, List.set_cons_zero, valC]; rfl) ?_
  refine TL.opK rfl fun K hK => ?_
  refine OpT.callL rfl rfl rfl rfl rfl rfl ((laws_toSlotS_f x.Written hmx.2.1).k) (by repeat first | exact .nil | refine Snaps.cons (.ro _) ?_ | refine Snaps.cons (.aggRo rfl) ?_ | refine Snaps.cons (.cptr _) ?_ | refine Snaps.cons (.fn _) ?_ | refine Snaps.cons (.ownRef rfl (by first | assumption | exact w_IntS _ | exact w_IntSS _ | exact w_InsS _ | exact w_SlotS _ | exact w_GuestS _ | exact whole_map _ _ (fun w c hc => by simp only [D.row, List.mem_cons, List.not_mem_nil, or_false] at hc; subst hc; exact .v _))) ?_ | refine Snaps.cons (.aggR (by repeat first | exact .nil | refine SnapCs.cons (.ro _) ?_ | refine SnapCs.cons (.ref rfl (by first | assumption | exact w_IntS _ | exact w_IntSS _ | exact w_InsS _ | exact w_SlotS _ | exact w_GuestS _ | exact whole_map _ _ (fun w c hc => by simp only [D.row, List.mem_cons, List.not_mem_nil, or_false] at hc; subst hc; exact .v _))) ?_)) ?_) ?_ -- 16
  simp only [St.fresh, St.kill, St.setRoot, St.put, St.renew, TS.kill, TV.kill, C.kill, Rt.kill, boxC, List.map_cons, List.map_nil, List.filter_cons, List.filter_nil, List.set_cons_succ, List.set_cons_zero, List.contains_cons, List.contains_nil, Nat.reduceBEq, Nat.reduceBNe, St.wrote, hitR, hitP, shapeOf, List.isPrefixOf, List.append_eq, Bool.and_true, Bool.true_and, Bool.and_false, Bool.false_and, List.nil_append, List.cons_append, beq_self_eq_true, bne_self_eq_false, Bool.or_false, Bool.or_true, Bool.not_true, Bool.not_false, Bool.false_eq_true, if_true, if_false, reduceIte, resT, valsD, refsD, refD, nextD, nextsD, cellsD, isSl, List.append_nil]
  refine hK _ ?_
  clear hK K
  refine TL.valE rfl (by first | exact Val.field rfl rfl rfl | exact Val.fieldC rfl rfl rfl) (by simp only [St.put, List.set_cons_succ, List.set_cons_zero, List.getElem_toArray, List.getElem_cons_succ, List.getElem_cons_zero, Nat.zero_add, Nat.reduceAdd]; rfl) ?_
  refine TL.opK rfl fun K hK => ?_
  refine OpT.store (z := 1) rfl rfl rfl rfl rfl rfl (by simp [St.store1, St.storeAll, St.cellAt, St.isMem, St.root, St.wrote, St.kill, St.setRoot, TS.kill, TV.kill, C.kill, Rt.kill, hitR, hitP, shapeOf, setRow, setAt, rowAt, D.row, D.reRow, List.isPrefixOf]; rfl) ?_ -- None
  simp only [St.fresh, St.kill, St.setRoot, St.put, St.renew, TS.kill, TV.kill, C.kill, Rt.kill, boxC, List.map_cons, List.map_nil, List.filter_cons, List.filter_nil, List.set_cons_succ, List.set_cons_zero, List.contains_cons, List.contains_nil, Nat.reduceBEq, Nat.reduceBNe, St.wrote, hitR, hitP, shapeOf, List.isPrefixOf, List.append_eq, Bool.and_true, Bool.true_and, Bool.and_false, Bool.false_and, List.nil_append, List.cons_append, beq_self_eq_true, bne_self_eq_false, Bool.or_false, Bool.or_true, Bool.not_true, Bool.not_false, Bool.false_eq_true, if_true, if_false, reduceIte, resT, valsD, refsD, refD, nextD, nextsD, cellsD, isSl, List.append_nil]
  refine hK _ ?_
  clear hK K
  refine TL.nil ?_
  show TC _ _ _ _ _ _
  refine TC.seq ?_
  -- region 6
  refine TC.region ?_
  refine TL.valE rfl (by first | exact Val.field rfl rfl rfl | exact Val.fieldC rfl rfl rfl) (by simp only [St.put, List.set_cons_succ, List.set_cons_zero, List.getElem_toArray, List.getElem_cons_succ, List.getElem_cons_zero, Nat.zero_add, Nat.reduceAdd]; rfl) ?_
  refine TL.valE rfl (by first | exact Val.load rfl rfl rfl rfl rfl | exact Val.loadC rfl rfl rfl) (by simp only [St.put, List.set_cons_succ, List.set_cons_zero, valC]; rfl) ?_
  refine TL.opK rfl fun K hK => ?_
  refine OpT.callL rfl rfl rfl rfl rfl rfl ((laws_toSlotS_f x.Live hmx.2.2.1).k) (by repeat first | exact .nil | refine Snaps.cons (.ro _) ?_ | refine Snaps.cons (.aggRo rfl) ?_ | refine Snaps.cons (.cptr _) ?_ | refine Snaps.cons (.fn _) ?_ | refine Snaps.cons (.ownRef rfl (by first | assumption | exact w_IntS _ | exact w_IntSS _ | exact w_InsS _ | exact w_SlotS _ | exact w_GuestS _ | exact whole_map _ _ (fun w c hc => by simp only [D.row, List.mem_cons, List.not_mem_nil, or_false] at hc; subst hc; exact .v _))) ?_ | refine Snaps.cons (.aggR (by repeat first | exact .nil | refine SnapCs.cons (.ro _) ?_ | refine SnapCs.cons (.ref rfl (by first | assumption | exact w_IntS _ | exact w_IntSS _ | exact w_InsS _ | exact w_SlotS _ | exact w_GuestS _ | exact whole_map _ _ (fun w c hc => by simp only [D.row, List.mem_cons, List.not_mem_nil, or_false] at hc; subst hc; exact .v _))) ?_)) ?_) ?_ -- 20
  simp only [St.fresh, St.kill, St.setRoot, St.put, St.renew, TS.kill, TV.kill, C.kill, Rt.kill, boxC, List.map_cons, List.map_nil, List.filter_cons, List.filter_nil, List.set_cons_succ, List.set_cons_zero, List.contains_cons, List.contains_nil, Nat.reduceBEq, Nat.reduceBNe, St.wrote, hitR, hitP, shapeOf, List.isPrefixOf, List.append_eq, Bool.and_true, Bool.true_and, Bool.and_false, Bool.false_and, List.nil_append, List.cons_append, beq_self_eq_true, bne_self_eq_false, Bool.or_false, Bool.or_true, Bool.not_true, Bool.not_false, Bool.false_eq_true, if_true, if_false, reduceIte, resT, valsD, refsD, refD, nextD, nextsD, cellsD, isSl, List.append_nil]
  refine hK _ ?_
  clear hK K
  refine TL.valE rfl (by first | exact Val.field rfl rfl rfl | exact Val.fieldC rfl rfl rfl) (by simp only [St.put, List.set_cons_succ, List.set_cons_zero, List.getElem_toArray, List.getElem_cons_succ, List.getElem_cons_zero, Nat.zero_add, Nat.reduceAdd]; rfl) ?_
  refine TL.opK rfl fun K hK => ?_
  refine OpT.store (z := 1) rfl rfl rfl rfl rfl rfl (by simp [St.store1, St.storeAll, St.cellAt, St.isMem, St.root, St.wrote, St.kill, St.setRoot, TS.kill, TV.kill, C.kill, Rt.kill, hitR, hitP, shapeOf, setRow, setAt, rowAt, D.row, D.reRow, List.isPrefixOf]; rfl) ?_ -- None
  simp only [St.fresh, St.kill, St.setRoot, St.put, St.renew, TS.kill, TV.kill, C.kill, Rt.kill, boxC, List.map_cons, List.map_nil, List.filter_cons, List.filter_nil, List.set_cons_succ, List.set_cons_zero, List.contains_cons, List.contains_nil, Nat.reduceBEq, Nat.reduceBNe, St.wrote, hitR, hitP, shapeOf, List.isPrefixOf, List.append_eq, Bool.and_true, Bool.true_and, Bool.and_false, Bool.false_and, List.nil_append, List.cons_append, beq_self_eq_true, bne_self_eq_false, Bool.or_false, Bool.or_true, Bool.not_true, Bool.not_false, Bool.false_eq_true, if_true, if_false, reduceIte, resT, valsD, refsD, refD, nextD, nextsD, cellsD, isSl, List.append_nil]
  refine hK _ ?_
  clear hK K
  refine TL.nil ?_
  show TC _ _ _ _ _ _
  refine TC.seq ?_
  -- region 7
  refine TC.region ?_
  refine TL.valE rfl (by first | exact Val.field rfl rfl rfl | exact Val.fieldC rfl rfl rfl) (by simp only [St.put, List.set_cons_succ, List.set_cons_zero, List.getElem_toArray, List.getElem_cons_succ, List.getElem_cons_zero, Nat.zero_add, Nat.reduceAdd]; rfl) ?_
  refine TL.valE rfl (by first | exact Val.loadCAgg (n := 3) rfl rfl rfl rfl (Nat.le_of_ble_eq_true rfl) | exact Val.loadAgg (n := 3) rfl rfl rfl rfl (by simp [St.cellsAt, St.cellAt, St.root, valC]; rfl) rfl | exact Val.loadAgg (n := 3) rfl rfl rfl rfl rfl rfl) (by simp only [St.put, List.set_cons_succ, List.set_cons_zero, valC, dCtl, rCtl, D.row, List.take_succ_cons, List.take_zero, List.map_cons, List.map_nil]; rfl) ?_
  refine TL.callF (yes_none rfl) rfl rfl rfl rfl rfl rfl ((laws_toCtl_f x.Ctl).k) (by repeat first | exact .nil | refine Snaps.cons (.ro _) ?_ | refine Snaps.cons (.aggRo rfl) ?_ | refine Snaps.cons (.cptr _) ?_ | refine Snaps.cons (.fn _) ?_ | refine Snaps.cons (.ownRef rfl (by first | assumption | exact w_IntS _ | exact w_IntSS _ | exact w_InsS _ | exact w_SlotS _ | exact w_GuestS _ | exact whole_map _ _ (fun w c hc => by simp only [D.row, List.mem_cons, List.not_mem_nil, or_false] at hc; subst hc; exact .v _))) ?_ | refine Snaps.cons (.aggR (by repeat first | exact .nil | refine SnapCs.cons (.ro _) ?_ | refine SnapCs.cons (.ref rfl (by first | assumption | exact w_IntS _ | exact w_IntSS _ | exact w_InsS _ | exact w_SlotS _ | exact w_GuestS _ | exact whole_map _ _ (fun w c hc => by simp only [D.row, List.mem_cons, List.not_mem_nil, or_false] at hc; subst hc; exact .v _))) ?_)) ?_) rfl (by simp only [St.put, List.set_cons_succ, List.set_cons_zero]; rfl) ?_
  refine TL.valE rfl (by first | exact Val.field rfl rfl rfl | exact Val.fieldC rfl rfl rfl) (by simp only [St.put, List.set_cons_succ, List.set_cons_zero, List.getElem_toArray, List.getElem_cons_succ, List.getElem_cons_zero, Nat.zero_add, Nat.reduceAdd]; rfl) ?_
  refine TL.opK rfl fun K hK => ?_
  refine OpT.storeAgg rfl rfl rfl rfl rfl rfl (by simp [St.store1, St.storeAll, St.cellAt, St.isMem, St.root, St.wrote, St.kill, St.setRoot, TS.kill, TV.kill, C.kill, Rt.kill, hitR, hitP, shapeOf, setRow, setAt, rowAt, D.row, D.reRow, List.isPrefixOf]; rfl) ?_ -- None
  simp only [St.fresh, St.kill, St.setRoot, St.put, St.renew, TS.kill, TV.kill, C.kill, Rt.kill, boxC, List.map_cons, List.map_nil, List.filter_cons, List.filter_nil, List.set_cons_succ, List.set_cons_zero, List.contains_cons, List.contains_nil, Nat.reduceBEq, Nat.reduceBNe, St.wrote, hitR, hitP, shapeOf, List.isPrefixOf, List.append_eq, Bool.and_true, Bool.true_and, Bool.and_false, Bool.false_and, List.nil_append, List.cons_append, beq_self_eq_true, bne_self_eq_false, Bool.or_false, Bool.or_true, Bool.not_true, Bool.not_false, Bool.false_eq_true, if_true, if_false, reduceIte, resT, valsD, refsD, refD, nextD, nextsD, cellsD, isSl, List.append_nil]
  refine hK _ ?_
  clear hK K
  refine TL.nil ?_
  show TC _ _ _ _ _ _
  refine TC.seq ?_
  -- region 8
  refine TC.region ?_
  refine TL.valE rfl (by first | exact Val.field rfl rfl rfl | exact Val.fieldC rfl rfl rfl) (by simp only [St.put, List.set_cons_succ, List.set_cons_zero, List.getElem_toArray, List.getElem_cons_succ, List.getElem_cons_zero, Nat.zero_add, Nat.reduceAdd]; rfl) ?_
  refine TL.valE rfl (by first | exact Val.load rfl rfl rfl rfl rfl | exact Val.loadC rfl rfl rfl) (by simp only [St.put, List.set_cons_succ, List.set_cons_zero, valC]; rfl) ?_
  refine TL.valE rfl (by first | exact Val.field rfl rfl rfl | exact Val.fieldC rfl rfl rfl) (by simp only [St.put, List.set_cons_succ, List.set_cons_zero, List.getElem_toArray, List.getElem_cons_succ, List.getElem_cons_zero, Nat.zero_add, Nat.reduceAdd]; rfl) ?_
  refine TL.opK rfl fun K hK => ?_
  refine OpT.store (z := 1) rfl rfl rfl rfl rfl rfl (by simp [St.store1, St.storeAll, St.cellAt, St.isMem, St.root, St.wrote, St.kill, St.setRoot, TS.kill, TV.kill, C.kill, Rt.kill, hitR, hitP, shapeOf, setRow, setAt, rowAt, D.row, D.reRow, List.isPrefixOf]; rfl) ?_ -- None
  simp only [St.fresh, St.kill, St.setRoot, St.put, St.renew, TS.kill, TV.kill, C.kill, Rt.kill, boxC, List.map_cons, List.map_nil, List.filter_cons, List.filter_nil, List.set_cons_succ, List.set_cons_zero, List.contains_cons, List.contains_nil, Nat.reduceBEq, Nat.reduceBNe, St.wrote, hitR, hitP, shapeOf, List.isPrefixOf, List.append_eq, Bool.and_true, Bool.true_and, Bool.and_false, Bool.false_and, List.nil_append, List.cons_append, beq_self_eq_true, bne_self_eq_false, Bool.or_false, Bool.or_true, Bool.not_true, Bool.not_false, Bool.false_eq_true, if_true, if_false, reduceIte, resT, valsD, refsD, refD, nextD, nextsD, cellsD, isSl, List.append_nil]
  refine hK _ ?_
  clear hK K
  refine TL.nil ?_
  show TC _ _ _ _ _ _
  refine TC.seq ?_
  -- region 9
  refine TC.region ?_
  refine TL.valE rfl (by first | exact Val.field rfl rfl rfl | exact Val.fieldC rfl rfl rfl) (by simp only [St.put, List.set_cons_succ, List.set_cons_zero, List.getElem_toArray, List.getElem_cons_succ, List.getElem_cons_zero, Nat.zero_add, Nat.reduceAdd]; rfl) ?_
  refine TL.valE rfl (by first | exact Val.loadCAgg (n := 4) rfl rfl rfl rfl (Nat.le_of_ble_eq_true rfl) | exact Val.loadAgg (n := 4) rfl rfl rfl rfl (by simp [St.cellsAt, St.cellAt, St.root, valC]; rfl) rfl | exact Val.loadAgg (n := 4) rfl rfl rfl rfl rfl rfl) (by simp only [St.put, List.set_cons_succ, List.set_cons_zero, valC, dExit, rExit, D.row, List.take_succ_cons, List.take_zero, List.map_cons, List.map_nil]; rfl) ?_
  refine TL.callF (yes_none rfl) rfl rfl rfl rfl rfl rfl ((laws_toExit_f x.Exit).k) (by repeat first | exact .nil | refine Snaps.cons (.ro _) ?_ | refine Snaps.cons (.aggRo rfl) ?_ | refine Snaps.cons (.cptr _) ?_ | refine Snaps.cons (.fn _) ?_ | refine Snaps.cons (.ownRef rfl (by first | assumption | exact w_IntS _ | exact w_IntSS _ | exact w_InsS _ | exact w_SlotS _ | exact w_GuestS _ | exact whole_map _ _ (fun w c hc => by simp only [D.row, List.mem_cons, List.not_mem_nil, or_false] at hc; subst hc; exact .v _))) ?_ | refine Snaps.cons (.aggR (by repeat first | exact .nil | refine SnapCs.cons (.ro _) ?_ | refine SnapCs.cons (.ref rfl (by first | assumption | exact w_IntS _ | exact w_IntSS _ | exact w_InsS _ | exact w_SlotS _ | exact w_GuestS _ | exact whole_map _ _ (fun w c hc => by simp only [D.row, List.mem_cons, List.not_mem_nil, or_false] at hc; subst hc; exact .v _))) ?_)) ?_) rfl (by simp only [St.put, List.set_cons_succ, List.set_cons_zero]; rfl) ?_
  refine TL.valE rfl (by first | exact Val.field rfl rfl rfl | exact Val.fieldC rfl rfl rfl) (by simp only [St.put, List.set_cons_succ, List.set_cons_zero, List.getElem_toArray, List.getElem_cons_succ, List.getElem_cons_zero, Nat.zero_add, Nat.reduceAdd]; rfl) ?_
  refine TL.opK rfl fun K hK => ?_
  refine OpT.storeAgg rfl rfl rfl rfl rfl rfl (by simp [St.store1, St.storeAll, St.cellAt, St.isMem, St.root, St.wrote, St.kill, St.setRoot, TS.kill, TV.kill, C.kill, Rt.kill, hitR, hitP, shapeOf, setRow, setAt, rowAt, D.row, D.reRow, List.isPrefixOf]; rfl) ?_ -- None
  simp only [St.fresh, St.kill, St.setRoot, St.put, St.renew, TS.kill, TV.kill, C.kill, Rt.kill, boxC, List.map_cons, List.map_nil, List.filter_cons, List.filter_nil, List.set_cons_succ, List.set_cons_zero, List.contains_cons, List.contains_nil, Nat.reduceBEq, Nat.reduceBNe, St.wrote, hitR, hitP, shapeOf, List.isPrefixOf, List.append_eq, Bool.and_true, Bool.true_and, Bool.and_false, Bool.false_and, List.nil_append, List.cons_append, beq_self_eq_true, bne_self_eq_false, Bool.or_false, Bool.or_true, Bool.not_true, Bool.not_false, Bool.false_eq_true, if_true, if_false, reduceIte, resT, valsD, refsD, refD, nextD, nextsD, cellsD, isSl, List.append_nil]
  refine hK _ ?_
  clear hK K
  refine TL.nil ?_
  show TC _ _ _ _ _ _
  refine TC.seq ?_
  -- region 10
  refine TC.region ?_
  refine TL.valE rfl (by first | exact Val.field rfl rfl rfl | exact Val.fieldC rfl rfl rfl) (by simp only [St.put, List.set_cons_succ, List.set_cons_zero, List.getElem_toArray, List.getElem_cons_succ, List.getElem_cons_zero, Nat.zero_add, Nat.reduceAdd]; rfl) ?_
  refine TL.valE rfl (by first | exact Val.load rfl rfl rfl rfl rfl | exact Val.loadC rfl rfl rfl) (by simp only [St.put, List.set_cons_succ, List.set_cons_zero, valC]; rfl) ?_
  refine TL.valE rfl (by first | exact Val.field rfl rfl rfl | exact Val.fieldC rfl rfl rfl) (by simp only [St.put, List.set_cons_succ, List.set_cons_zero, List.getElem_toArray, List.getElem_cons_succ, List.getElem_cons_zero, Nat.zero_add, Nat.reduceAdd]; rfl) ?_
  refine TL.opK rfl fun K hK => ?_
  refine OpT.store (z := 1) rfl rfl rfl rfl rfl rfl (by simp [St.store1, St.storeAll, St.cellAt, St.isMem, St.root, St.wrote, St.kill, St.setRoot, TS.kill, TV.kill, C.kill, Rt.kill, hitR, hitP, shapeOf, setRow, setAt, rowAt, D.row, D.reRow, List.isPrefixOf]; rfl) ?_ -- None
  simp only [St.fresh, St.kill, St.setRoot, St.put, St.renew, TS.kill, TV.kill, C.kill, Rt.kill, boxC, List.map_cons, List.map_nil, List.filter_cons, List.filter_nil, List.set_cons_succ, List.set_cons_zero, List.contains_cons, List.contains_nil, Nat.reduceBEq, Nat.reduceBNe, St.wrote, hitR, hitP, shapeOf, List.isPrefixOf, List.append_eq, Bool.and_true, Bool.true_and, Bool.and_false, Bool.false_and, List.nil_append, List.cons_append, beq_self_eq_true, bne_self_eq_false, Bool.or_false, Bool.or_true, Bool.not_true, Bool.not_false, Bool.false_eq_true, if_true, if_false, reduceIte, resT, valsD, refsD, refD, nextD, nextsD, cellsD, isSl, List.append_nil]
  refine hK _ ?_
  clear hK K
  refine TL.nil ?_
  show TC _ _ _ _ _ _
  refine TC.seq ?_
  -- region 11
  refine TC.region ?_
  refine TL.valE rfl (by first | exact Val.field rfl rfl rfl | exact Val.fieldC rfl rfl rfl) (by simp only [St.put, List.set_cons_succ, List.set_cons_zero, List.getElem_toArray, List.getElem_cons_succ, List.getElem_cons_zero, Nat.zero_add, Nat.reduceAdd]; rfl) ?_
  refine TL.valE rfl (by first | exact Val.load rfl rfl rfl rfl rfl | exact Val.loadC rfl rfl rfl) (by simp only [St.put, List.set_cons_succ, List.set_cons_zero, valC]; rfl) ?_
  refine TL.opK rfl fun K hK => ?_
  refine OpT.callL rfl rfl rfl rfl rfl rfl ((laws_toIntS_f x.Seen hmx.2.2.2).k) (by repeat first | exact .nil | refine Snaps.cons (.ro _) ?_ | refine Snaps.cons (.aggRo rfl) ?_ | refine Snaps.cons (.cptr _) ?_ | refine Snaps.cons (.fn _) ?_ | refine Snaps.cons (.ownRef rfl (by first | assumption | exact w_IntS _ | exact w_IntSS _ | exact w_InsS _ | exact w_SlotS _ | exact w_GuestS _ | exact whole_map _ _ (fun w c hc => by simp only [D.row, List.mem_cons, List.not_mem_nil, or_false] at hc; subst hc; exact .v _))) ?_ | refine Snaps.cons (.aggR (by repeat first | exact .nil | refine SnapCs.cons (.ro _) ?_ | refine SnapCs.cons (.ref rfl (by first | assumption | exact w_IntS _ | exact w_IntSS _ | exact w_InsS _ | exact w_SlotS _ | exact w_GuestS _ | exact whole_map _ _ (fun w c hc => by simp only [D.row, List.mem_cons, List.not_mem_nil, or_false] at hc; subst hc; exact .v _))) ?_)) ?_) ?_ -- 38
  simp only [St.fresh, St.kill, St.setRoot, St.put, St.renew, TS.kill, TV.kill, C.kill, Rt.kill, boxC, List.map_cons, List.map_nil, List.filter_cons, List.filter_nil, List.set_cons_succ, List.set_cons_zero, List.contains_cons, List.contains_nil, Nat.reduceBEq, Nat.reduceBNe, St.wrote, hitR, hitP, shapeOf, List.isPrefixOf, List.append_eq, Bool.and_true, Bool.true_and, Bool.and_false, Bool.false_and, List.nil_append, List.cons_append, beq_self_eq_true, bne_self_eq_false, Bool.or_false, Bool.or_true, Bool.not_true, Bool.not_false, Bool.false_eq_true, if_true, if_false, reduceIte, resT, valsD, refsD, refD, nextD, nextsD, cellsD, isSl, List.append_nil]
  refine hK _ ?_
  clear hK K
  refine TL.valE rfl (by first | exact Val.field rfl rfl rfl | exact Val.fieldC rfl rfl rfl) (by simp only [St.put, List.set_cons_succ, List.set_cons_zero, List.getElem_toArray, List.getElem_cons_succ, List.getElem_cons_zero, Nat.zero_add, Nat.reduceAdd]; rfl) ?_
  refine TL.opK rfl fun K hK => ?_
  refine OpT.store (z := 1) rfl rfl rfl rfl rfl rfl (by simp [St.store1, St.storeAll, St.cellAt, St.isMem, St.root, St.wrote, St.kill, St.setRoot, TS.kill, TV.kill, C.kill, Rt.kill, hitR, hitP, shapeOf, setRow, setAt, rowAt, D.row, D.reRow, List.isPrefixOf]; rfl) ?_ -- None
  simp only [St.fresh, St.kill, St.setRoot, St.put, St.renew, TS.kill, TV.kill, C.kill, Rt.kill, boxC, List.map_cons, List.map_nil, List.filter_cons, List.filter_nil, List.set_cons_succ, List.set_cons_zero, List.contains_cons, List.contains_nil, Nat.reduceBEq, Nat.reduceBNe, St.wrote, hitR, hitP, shapeOf, List.isPrefixOf, List.append_eq, Bool.and_true, Bool.true_and, Bool.and_false, Bool.false_and, List.nil_append, List.cons_append, beq_self_eq_true, bne_self_eq_false, Bool.or_false, Bool.or_true, Bool.not_true, Bool.not_false, Bool.false_eq_true, if_true, if_false, reduceIte, resT, valsD, refsD, refD, nextD, nextsD, cellsD, isSl, List.append_nil]
  refine hK _ ?_
  clear hK K
  refine TL.nil ?_
  show TC _ _ _ _ _ _
  refine TC.seq ?_
  -- region 12
  refine TC.region ?_
  refine TL.valE rfl (by first | exact Val.loadCAgg (n := 15) rfl rfl rfl rfl (Nat.le_of_ble_eq_true rfl) | exact Val.loadAgg (n := 15) rfl rfl rfl rfl (by simp [St.cellsAt, St.cellAt, St.root, valC]; rfl) rfl | exact Val.loadAgg (n := 15) rfl rfl rfl rfl rfl rfl) (by simp only [St.put, List.set_cons_succ, List.set_cons_zero, valC, dGuest, rGuest, D.row, List.take_succ_cons, List.take_zero, List.map_cons, List.map_nil]; rfl) ?_
  refine TL.opK rfl fun K hK => ?_
  refine OpT.storeAgg rfl rfl rfl rfl rfl rfl (by simp [St.store1, St.storeAll, St.cellAt, St.isMem, St.root, St.wrote, St.kill, St.setRoot, TS.kill, TV.kill, C.kill, Rt.kill, hitR, hitP, shapeOf, setRow, setAt, rowAt, D.row, D.reRow, List.isPrefixOf]; rfl) ?_ -- None
  simp only [St.fresh, St.kill, St.setRoot, St.put, St.renew, TS.kill, TV.kill, C.kill, Rt.kill, boxC, List.map_cons, List.map_nil, List.filter_cons, List.filter_nil, List.set_cons_succ, List.set_cons_zero, List.contains_cons, List.contains_nil, Nat.reduceBEq, Nat.reduceBNe, St.wrote, hitR, hitP, shapeOf, List.isPrefixOf, List.append_eq, Bool.and_true, Bool.true_and, Bool.and_false, Bool.false_and, List.nil_append, List.cons_append, beq_self_eq_true, bne_self_eq_false, Bool.or_false, Bool.or_true, Bool.not_true, Bool.not_false, Bool.false_eq_true, if_true, if_false, reduceIte, resT, valsD, refsD, refD, nextD, nextsD, cellsD, isSl, List.append_nil]
  refine hK _ ?_
  clear hK K
  refine TL.nil ?_
  show TC _ _ _ _ _ _
  refine TC.ret ?_
  exact ⟨.inr rfl, [_], [_], _, rfl, by decide, rfl, by simp [refV, refC, valC], rfl, rfl⟩

-- loop.example/g00975/laws.toGuestS: params ['[]laws.Guest'] results ['[]impl.Guest'] ('arr', [('app', 'Go.ResultVar.tmp', ['2'])])
theorem laws_toGuestS_f (xs : List VGuest) (hmx : SmGuestS xs) : Fun Tryd.prog 57 [L 15 (xs.map dGuest)] (RL 15 (xs.map dGuest)) := by
  refine Fun.of Tryd.func57 rfl (by simp [Tryd.ntmps57]) fun w g0 => ?_
  simp only [Tryd.ntmps57, List.length_cons, List.length_nil, Nat.reduceAdd, Nat.reduceSub, List.replicate, List.cons_append, List.nil_append]
  have hlen : xs.length ≤ 1048576 := hmx.1
  refine TC.seq ?_
  -- region 0
  refine TC.region ?_
  refine TL.valE rfl (Val.assign 1 rfl rfl) (by simp only [St.put, List.set_cons_succ, List.set_cons_zero]; rfl) ?_
  refine TL.nil ?_
  show TC _ _ _ _ _ _
  refine TC.seq ?_
  -- region 1
  refine TC.region ?_
  refine TL.valE rfl (Val.move 1 rfl rfl) (by simp only [St.put, List.set_cons_succ, List.set_cons_zero]; rfl) ?_
  refine TL.valE rfl (by first | exact Val.len rfl rfl rfl rfl | exact Val.lenS rfl rfl rfl) (by simp only [St.put, List.set_cons_succ, List.set_cons_zero]; rfl) ?_
  refine TL.opK rfl fun K hK => ?_
  refine OpT.makeE (d := (dGuest (VGuest.mk [] 0 0 [] [] (VCtl.mk 0 0 false) 0 (VExit.mk 0 0 false 0) false []))) rfl rfl rfl rfl rfl rfl rfl (sz := 15) rfl rfl rfl rfl rfl rfl rfl (by omega) (by simp; omega) ?_ -- 7
  simp only [St.fresh, St.kill, St.setRoot, St.put, St.renew, TS.kill, TV.kill, C.kill, Rt.kill, boxC, List.map_cons, List.map_nil, List.filter_cons, List.filter_nil, List.set_cons_succ, List.set_cons_zero, List.contains_cons, List.contains_nil, Nat.reduceBEq, Nat.reduceBNe, St.wrote, hitR, hitP, shapeOf, List.isPrefixOf, List.append_eq, Bool.and_true, Bool.true_and, Bool.and_false, Bool.false_and, List.nil_append, List.cons_append, beq_self_eq_true, bne_self_eq_false, Bool.or_false, Bool.or_true, Bool.not_true, Bool.not_false, Bool.false_eq_true, if_true, if_false, reduceIte, resT, valsD, refsD, refD, nextD, nextsD, cellsD, isSl, List.append_nil]
  refine hK _ ?_
  clear hK K
  refine TL.valE rfl (Val.assign 1 rfl rfl) (by simp only [St.put, List.set_cons_succ, List.set_cons_zero]; rfl) ?_
  refine TL.nil ?_
  show TC _ _ _ _ _ _
  refine TC.seq ?_
  refine TC.seq ?_
  -- region 2
  refine TC.region ?_
  refine TL.valE rfl (Val.assign 1 rfl rfl) (by simp only [St.put, List.set_cons_succ, List.set_cons_zero]; rfl) ?_
  refine TL.nil ?_
  show TC _ _ _ _ _ _
  refine TC.block ?_
  refine TC.loop (fun μ st => ∃ k : Nat, (k ≤ xs.length) ∧ μ = xs.length - k ∧ Can st ⟨[L 15 (xs.map dGuest), .one .dead, .one .dead, .one (.c (.ref ⟨7, [], 0⟩)), I k, .one .dead, .one .dead, .one .dead, .one .dead, .one .dead, .one .dead, .one .dead, .one .dead, .one .dead, .one .dead, .one .dead, .one .dead, .one .dead, .one .dead, .one .dead, .one .dead, .one .dead, .one .dead], [(7, ⟨false, [.own (.sl 15 (fill dGuest (dGuest (VGuest.mk [] 0 0 [] [] (VCtl.mk 0 0 false) 0 (VExit.mk 0 0 false 0) false [])) xs k))]⟩)]⟩) (xs.length) ?_ fun μ st hI => ?_
  · refine ⟨0, by simp, by simp, ?_⟩
    exact Can.to (by repeat first | exact LessT.nil | refine LessT.drop ?_ | refine LessT.keep ?_ | refine LessT.eq (by simp) ?_) (.cons rfl (by simp [fill]) .nil)
  · obtain ⟨k, hyp, rfl, hcan⟩ := hI
    refine TC.can hcan ?_
    clear hcan
    refine TC.seq ?_
    refine TC.seq ?_
    -- region 3
    refine TC.region ?_
    refine TL.valE rfl (Val.move 1 rfl rfl) (by simp only [St.put, List.set_cons_succ, List.set_cons_zero]; rfl) ?_
    refine TL.valE rfl (Val.move 1 rfl rfl) (by simp only [St.put, List.set_cons_succ, List.set_cons_zero]; rfl) ?_
    refine TL.valE rfl (by first | exact Val.len rfl rfl rfl rfl | exact Val.lenS rfl rfl rfl) (by simp only [St.put, List.set_cons_succ, List.set_cons_zero]; rfl) ?_
    refine TL.valE rfl (Val.lss rfl rfl rfl) (by simp only [St.put, List.set_cons_succ, List.set_cons_zero]; rfl) ?_
    refine TL.nil ?_
    show TC _ _ _ _ _ _
    refine TC.cond rfl (fun hb => ?_) (fun hb => ?_)
    · refine TC.skip ?_
      show TC _ _ _ _ _ _
      refine TC.seq ?_
      refine TC.block ?_
      have hk : k < xs.length := by simpa using hb
      obtain ⟨x, hx⟩ := at_of (xs := xs) (k := k) hk
      have hsx : SmGuest x := hmx.2 x (List.mem_of_getElem? hx)
      have hg := fill_get (f := dGuest) (z := (dGuest (VGuest.mk [] 0 0 [] [] (VCtl.mk 0 0 false) 0 (VExit.mk 0 0 false 0) false []))) hk
      have hs := fill_set (f := dGuest) (z := (dGuest (VGuest.mk [] 0 0 [] [] (VCtl.mk 0 0 false) 0 (VExit.mk 0 0 false 0) false []))) hx
      have hg2 := hg
      have hs2 := hs
      simp only [dGuest, rGuest, List.map_nil] at hg2 hs2
      -- region 5
      refine TC.region ?_
      refine TL.valE rfl (Val.move 1 rfl rfl) (by simp only [St.put, List.set_cons_succ, List.set_cons_zero]; rfl) ?_
      refine TL.valE rfl (Val.move 1 rfl rfl) (by simp only [St.put, List.set_cons_succ, List.set_cons_zero]; rfl) ?_
      refine TL.valE rfl (Val.move 1 rfl rfl) (by simp only [St.put, List.set_cons_succ, List.set_cons_zero]; rfl) ?_
      refine TL.valE rfl (Val.move 1 rfl rfl) (by simp only [St.put, List.set_cons_succ, List.set_cons_zero]; rfl) ?_
      refine TL.valE rfl (by exact Val.indexC (d := dGuest x) rfl rfl rfl rfl rfl (by omega) (by simp [hx])) (by simp only [St.put, List.set_cons_succ, List.set_cons_zero]; rfl) ?_
      refine TL.valE rfl (by first | exact Val.loadCAgg (n := 15) rfl rfl rfl rfl (Nat.le_of_ble_eq_true rfl) | exact Val.loadAgg (n := 15) rfl rfl rfl rfl (by simp [St.cellsAt, St.cellAt, St.root, valC]; rfl) rfl | exact Val.loadAgg (n := 15) rfl rfl rfl rfl rfl rfl) (by simp only [St.put, List.set_cons_succ, List.set_cons_zero, valC, dGuest, rGuest, D.row, List.take_succ_cons, List.take_zero, List.map_cons, List.map_nil]; rfl) ?_
      refine TL.opK rfl fun K hK => ?_
      refine OpT.callG rfl rfl rfl rfl rfl rfl ((laws_toGuest_f x hsx).k) (by repeat first | exact .nil | refine Snaps.cons (.ro _) ?_ | refine Snaps.cons (.aggRo rfl) ?_ | refine Snaps.cons (.cptr _) ?_ | refine Snaps.cons (.fn _) ?_ | refine Snaps.cons (.ownRef rfl (by first | assumption | exact w_IntS _ | exact w_IntSS _ | exact w_InsS _ | exact w_SlotS _ | exact w_GuestS _ | exact whole_map _ _ (fun w c hc => by simp only [D.row, List.mem_cons, List.not_mem_nil, or_false] at hc; subst hc; exact .v _))) ?_ | refine Snaps.cons (.aggR (by repeat first | exact .nil | refine SnapCs.cons (.ro _) ?_ | refine SnapCs.cons (.ref rfl (by first | assumption | exact w_IntS _ | exact w_IntSS _ | exact w_InsS _ | exact w_SlotS _ | exact w_GuestS _ | exact whole_map _ _ (fun w c hc => by simp only [D.row, List.mem_cons, List.not_mem_nil, or_false] at hc; subst hc; exact .v _))) ?_)) ?_) rfl ?_ -- 20
      simp only [St.fresh, St.kill, St.setRoot, St.put, St.renew, TS.kill, TV.kill, C.kill, Rt.kill, boxC, List.map_cons, List.map_nil, List.filter_cons, List.filter_nil, List.set_cons_succ, List.set_cons_zero, List.contains_cons, List.contains_nil, Nat.reduceBEq, Nat.reduceBNe, St.wrote, hitR, hitP, shapeOf, List.isPrefixOf, List.append_eq, Bool.and_true, Bool.true_and, Bool.and_false, Bool.false_and, List.nil_append, List.cons_append, beq_self_eq_true, bne_self_eq_false, Bool.or_false, Bool.or_true, Bool.not_true, Bool.not_false, Bool.false_eq_true, if_true, if_false, reduceIte, resT, valsD, refsD, refD, nextD, nextsD, cellsD, isSl, List.append_nil]
      refine hK _ ?_
      clear hK K
      refine TL.valE rfl (by exact Val.index rfl rfl rfl rfl rfl rfl (by omega) (by simp [fill_len]; omega)) (by simp only [St.put, List.set_cons_succ, List.set_cons_zero]; rfl) ?_
      refine TL.opK rfl fun K hK => ?_
      refine OpT.storeAgg rfl rfl rfl rfl rfl rfl (by first | (simp [St.store1, St.storeAll, St.cellAt, St.isMem, St.root, St.wrote, St.kill, St.setRoot, TS.kill, TV.kill, C.kill, Rt.kill, hitR, hitP, shapeOf, setRow, setAt, rowAt, D.row, D.reRow, List.isPrefixOf, List.getElem?_set_self', List.set_set, hg, hs]; rfl) | (simp [St.store1, St.storeAll, St.cellAt, St.isMem, St.root, St.wrote, St.kill, St.setRoot, TS.kill, TV.kill, C.kill, Rt.kill, hitR, hitP, shapeOf, setRow, setAt, rowAt, D.row, D.reRow, List.isPrefixOf, List.getElem?_set_self', List.set_set, hg2, hs2]; rfl)) ?_
      simp only [St.fresh, St.kill, St.setRoot, St.put, St.renew, TS.kill, TV.kill, C.kill, Rt.kill, boxC, List.map_cons, List.map_nil, List.filter_cons, List.filter_nil, List.set_cons_succ, List.set_cons_zero, List.contains_cons, List.contains_nil, Nat.reduceBEq, Nat.reduceBNe, St.wrote, hitR, hitP, shapeOf, List.isPrefixOf, List.append_eq, Bool.and_true, Bool.true_and, Bool.and_false, Bool.false_and, List.nil_append, List.cons_append, beq_self_eq_true, bne_self_eq_false, Bool.or_false, Bool.or_true, Bool.not_true, Bool.not_false, Bool.false_eq_true, if_true, if_false, reduceIte, resT, valsD, refsD, refD, nextD, nextsD, cellsD, isSl, List.append_nil]
      refine hK _ ?_
      clear hK K
      refine TL.nil ?_
      show TC _ _ _ _ _ _
      -- region 4
      refine TC.region ?_
      refine TL.valE rfl (Val.move 1 rfl rfl) (by simp only [St.put, List.set_cons_succ, List.set_cons_zero]; rfl) ?_
      refine TL.valE rfl (Val.add rfl rfl rfl (by first | omega | (simp only [List.length_map]; omega)) (by first | omega | (simp only [List.length_map]; omega))) (by simp only [St.put, List.set_cons_succ, List.set_cons_zero]; rfl) ?_
      refine TL.valE rfl (Val.assign 1 rfl rfl) (by simp only [St.put, List.set_cons_succ, List.set_cons_zero]; rfl) ?_
      refine TL.nil ?_
      first | refine Seq.normal ⟨_, ?_, k + 1, ?_, rfl, ?_⟩ | refine Seq.normal (Q := fun _ _ => True) ⟨_, ?_, k + 1, ?_, rfl, ?_⟩
      · omega
      · omega
      · exact Can.to (by repeat first | exact LessT.nil | refine LessT.drop ?_ | refine LessT.keep ?_ | refine LessT.eq (by simp) ?_) (by repeat first | exact .nil | refine .cons rfl rfl ?_)
    · refine TC.exit ?_
      -- exit 0
      show TC _ _ _ _ _ _
      refine TC.seq ?_
      -- region 6
      refine TC.region ?_
      refine TL.valE rfl (Val.move 1 rfl rfl) (by simp only [St.put, List.set_cons_succ, List.set_cons_zero]; rfl) ?_
      refine TL.valE rfl (Val.assign 1 rfl rfl) (by simp only [St.put, List.set_cons_succ, List.set_cons_zero]; rfl) ?_
      refine TL.nil ?_
      show TC _ _ _ _ _ _
      refine TC.ret ?_
      exact ⟨.inr rfl, [_], [_], _, rfl, by decide, rfl, by simp [refV, refC, valC], rfl, by simp at hb; rw [← fill_all (f := dGuest) (z := (dGuest (VGuest.mk [] 0 0 [] [] (VCtl.mk 0 0 false) 0 (VExit.mk 0 0 false 0) false []))) (k := k) (by omega)]; rfl⟩

-- loop.example/g00975/laws.toBare: params ['laws.Bare = loop.example/g00975/laws.Bare'] results ['impl.Bare = loop.example/g00975/impl.Bare'] ('arr', [('app', 'Go.ResultVar.cell', ['2', '43'])])
theorem laws_toBare_f (x : VBare) (hmx : SmBare x) : Fun Tryd.prog 15 [A (rBare x)] (RG [.a (rBare x)]) := by
  refine Fun.of Tryd.func15 rfl (by simp [Tryd.ntmps15]) fun w g0 => ?_
  simp only [Tryd.ntmps15, List.length_cons, List.length_nil, Nat.reduceAdd, Nat.reduceSub, List.replicate, List.cons_append, List.nil_append]
  refine TC.seq ?_
  -- region 0
  refine TC.region ?_
  refine TL.opK rfl fun K hK => ?_
  first | refine OpT.box rfl rfl (z := 1) rfl (by simp) ?_ | refine OpT.boxAgg rfl rfl rfl ?_ -- 1
  simp only [St.fresh, St.kill, St.setRoot, St.put, St.renew, TS.kill, TV.kill, C.kill, Rt.kill, boxC, List.map_cons, List.map_nil, List.filter_cons, List.filter_nil, List.set_cons_succ, List.set_cons_zero, List.contains_cons, List.contains_nil, Nat.reduceBEq, Nat.reduceBNe, St.wrote, hitR, hitP, shapeOf, List.isPrefixOf, List.append_eq, Bool.and_true, Bool.true_and, Bool.and_false, Bool.false_and, List.nil_append, List.cons_append, beq_self_eq_true, bne_self_eq_false, Bool.or_false, Bool.or_true, Bool.not_true, Bool.not_false, Bool.false_eq_true, if_true, if_false, reduceIte, resT, valsD, refsD, refD, nextD, nextsD, cellsD, isSl, List.append_nil]
  refine hK _ ?_
  clear hK K
  refine TL.opK rfl fun K hK => ?_
  refine OpT.alloc rfl rfl rfl rfl rfl rfl ?_ -- 2
  simp only [St.fresh, St.kill, St.setRoot, St.put, St.renew, TS.kill, TV.kill, C.kill, Rt.kill, boxC, List.map_cons, List.map_nil, List.filter_cons, List.filter_nil, List.set_cons_succ, List.set_cons_zero, List.contains_cons, List.contains_nil, Nat.reduceBEq, Nat.reduceBNe, St.wrote, hitR, hitP, shapeOf, List.isPrefixOf, List.append_eq, Bool.and_true, Bool.true_and, Bool.and_false, Bool.false_and, List.nil_append, List.cons_append, beq_self_eq_true, bne_self_eq_false, Bool.or_false, Bool.or_true, Bool.not_true, Bool.not_false, Bool.false_eq_true, if_true, if_false, reduceIte, resT, valsD, refsD, refD, nextD, nextsD, cellsD, isSl, List.append_nil]
  refine hK _ ?_
  clear hK K
  refine TL.nil ?_
  show TC _ _ _ _ _ _
  refine TC.seq ?_
  -- region 1
  refine TC.region ?_
  refine TL.opK rfl fun K hK => ?_
  refine OpT.alloc rfl rfl rfl rfl rfl rfl ?_ -- 3
  simp only [St.fresh, St.kill, St.setRoot, St.put, St.renew, TS.kill, TV.kill, C.kill, Rt.kill, boxC, List.map_cons, List.map_nil, List.filter_cons, List.filter_nil, List.set_cons_succ, List.set_cons_zero, List.contains_cons, List.contains_nil, Nat.reduceBEq, Nat.reduceBNe, St.wrote, hitR, hitP, shapeOf, List.isPrefixOf, List.append_eq, Bool.and_true, Bool.true_and, Bool.and_false, Bool.false_and, List.nil_append, List.cons_append, beq_self_eq_true, bne_self_eq_false, Bool.or_false, Bool.or_true, Bool.not_true, Bool.not_false, Bool.false_eq_true, if_true, if_false, reduceIte, resT, valsD, refsD, refD, nextD, nextsD, cellsD, isSl, List.append_nil]
  refine hK _ ?_
  clear hK K
  refine TL.nil ?_
  show TC _ _ _ _ _ _
  refine TC.seq ?_
  -- region 2
  refine TC.region ?_
  refine TL.valE rfl (by first | exact Val.field rfl rfl rfl | exact Val.fieldC rfl rfl rfl) (by simp only [St.put, List.set_cons_succ, List.set_cons_zero, List.getElem_toArray, List.getElem_cons_succ, List.getElem_cons_zero, Nat.zero_add, Nat.reduceAdd]; rfl) ?_
  refine TL.valE rfl (by first | exact Val.load rfl rfl rfl rfl rfl | exact Val.loadC rfl rfl rfl) (by simp only [St.put, List.set_cons_succ, List.set_cons_zero, valC]; rfl) ?_
  refine TL.opK rfl fun K hK => ?_
  refine OpT.callL rfl rfl rfl rfl rfl rfl ((laws_toIntSS_f x.Memory hmx.1).k) (by repeat first | exact .nil | refine Snaps.cons (.ro _) ?_ | refine Snaps.cons (.aggRo rfl) ?_ | refine Snaps.cons (.cptr _) ?_ | refine Snaps.cons (.fn _) ?_ | refine Snaps.cons (.ownRef rfl (by first | assumption | exact w_IntS _ | exact w_IntSS _ | exact w_InsS _ | exact w_SlotS _ | exact w_GuestS _ | exact whole_map _ _ (fun w c hc => by simp only [D.row, List.mem_cons, List.not_mem_nil, or_false] at hc; subst hc; exact .v _))) ?_ | refine Snaps.cons (.aggR (by repeat first | exact .nil | refine SnapCs.cons (.ro _) ?_ | refine SnapCs.cons (.ref rfl (by first | assumption | exact w_IntS _ | exact w_IntSS _ | exact w_InsS _ | exact w_SlotS _ | exact w_GuestS _ | exact whole_map _ _ (fun w c hc => by simp only [D.row, List.mem_cons, List.not_mem_nil, or_false] at hc; subst hc; exact .v _))) ?_)) ?_) ?_ -- 6
  simp only [St.fresh, St.kill, St.setRoot, St.put, St.renew, TS.kill, TV.kill, C.kill, Rt.kill, boxC, List.map_cons, List.map_nil, List.filter_cons, List.filter_nil, List.set_cons_succ, List.set_cons_zero, List.contains_cons, List.contains_nil, Nat.reduceBEq, Nat.reduceBNe, St.wrote, hitR, hitP, shapeOf, List.isPrefixOf, List.append_eq, Bool.and_true, Bool.true_and, Bool.and_false, Bool.false_and, List.nil_append, List.cons_append, beq_self_eq_true, bne_self_eq_false, Bool.or_false, Bool.or_true, Bool.not_true, Bool.not_false, Bool.false_eq_true, if_true, if_false, reduceIte, resT, valsD, refsD, refD, nextD, nextsD, cellsD, isSl, List.append_nil]
  refine hK _ ?_
  clear hK K
  refine TL.valE rfl (by first | exact Val.field rfl rfl rfl | exact Val.fieldC rfl rfl rfl) (by simp only [St.put, List.set_cons_succ, List.set_cons_zero, List.getElem_toArray, List.getElem_cons_succ, List.getElem_cons_zero, Nat.zero_add, Nat.reduceAdd]; rfl) ?_
  refine TL.opK rfl fun K hK => ?_
  refine OpT.store (z := 1) rfl rfl rfl rfl rfl rfl (by simp [St.store1, St.storeAll, St.cellAt, St.isMem, St.root, St.wrote, St.kill, St.setRoot, TS.kill, TV.kill, C.kill, Rt.kill, hitR, hitP, shapeOf, setRow, setAt, rowAt, D.row, D.reRow, List.isPrefixOf]; rfl) ?_ -- None
  simp only [St.fresh, St.kill, St.setRoot, St.put, St.renew, TS.kill, TV.kill, C.kill, Rt.kill, boxC, List.map_cons, List.map_nil, List.filter_cons, List.filter_nil, List.set_cons_succ, List.set_cons_zero, List.contains_cons, List.contains_nil, Nat.reduceBEq, Nat.reduceBNe, St.wrote, hitR, hitP, shapeOf, List.isPrefixOf, List.append_eq, Bool.and_true, Bool.true_and, Bool.and_false, Bool.false_and, List.nil_append, List.cons_append, beq_self_eq_true, bne_self_eq_false, Bool.or_false, Bool.or_true, Bool.not_true, Bool.not_false, Bool.false_eq_true, if_true, if_false, reduceIte, resT, valsD, refsD, refD, nextD, nextsD, cellsD, isSl, List.append_nil]
  refine hK _ ?_
  clear hK K
  refine TL.nil ?_
  show TC _ _ _ _ _ _
  refine TC.seq ?_
  -- region 3
  refine TC.region ?_
  refine TL.valE rfl (by first | exact Val.field rfl rfl rfl | exact Val.fieldC rfl rfl rfl) (by simp only [St.put, List.set_cons_succ, List.set_cons_zero, List.getElem_toArray, List.getElem_cons_succ, List.getElem_cons_zero, Nat.zero_add, Nat.reduceAdd]; rfl) ?_
  refine TL.valE rfl (by first | exact Val.load rfl rfl rfl rfl rfl | exact Val.loadC rfl rfl rfl) (by simp only [St.put, List.set_cons_succ, List.set_cons_zero, valC]; rfl) ?_
  refine TL.opK rfl fun K hK => ?_
  refine OpT.callL rfl rfl rfl rfl rfl rfl ((laws_toGuestS_f x.Guests hmx.2.1).k) (by repeat first | exact .nil | refine Snaps.cons (.ro _) ?_ | refine Snaps.cons (.aggRo rfl) ?_ | refine Snaps.cons (.cptr _) ?_ | refine Snaps.cons (.fn _) ?_ | refine Snaps.cons (.ownRef rfl (by first | assumption | exact w_IntS _ | exact w_IntSS _ | exact w_InsS _ | exact w_SlotS _ | exact w_GuestS _ | exact whole_map _ _ (fun w c hc => by simp only [D.row, List.mem_cons, List.not_mem_nil, or_false] at hc; subst hc; exact .v _))) ?_ | refine Snaps.cons (.aggR (by repeat first | exact .nil | refine SnapCs.cons (.ro _) ?_ | refine SnapCs.cons (.ref rfl (by first | assumption | exact w_IntS _ | exact w_IntSS _ | exact w_InsS _ | exact w_SlotS _ | exact w_GuestS _ | exact whole_map _ _ (fun w c hc => by simp only [D.row, List.mem_cons, List.not_mem_nil, or_false] at hc; subst hc; exact .v _))) ?_)) ?_) ?_ -- 10
  simp only [St.fresh, St.kill, St.setRoot, St.put, St.renew, TS.kill, TV.kill, C.kill, Rt.kill, boxC, List.map_cons, List.map_nil, List.filter_cons, List.filter_nil, List.set_cons_succ, List.set_cons_zero, List.contains_cons, List.contains_nil, Nat.reduceBEq, Nat.reduceBNe, St.wrote, hitR, hitP, shapeOf, List.isPrefixOf, List.append_eq, Bool.and_true, Bool.true_and, Bool.and_false, Bool.false_and, List.nil_append, List.cons_append, beq_self_eq_true, bne_self_eq_false, Bool.or_false, Bool.or_true, Bool.not_true, Bool.not_false, Bool.false_eq_true, if_true, if_false, reduceIte, resT, valsD, refsD, refD, nextD, nextsD, cellsD, isSl, List.append_nil]
  refine hK _ ?_
  clear hK K
  refine TL.valE rfl (by first | exact Val.field rfl rfl rfl | exact Val.fieldC rfl rfl rfl) (by simp only [St.put, List.set_cons_succ, List.set_cons_zero, List.getElem_toArray, List.getElem_cons_succ, List.getElem_cons_zero, Nat.zero_add, Nat.reduceAdd]; rfl) ?_
  refine TL.opK rfl fun K hK => ?_
  refine OpT.store (z := 1) rfl rfl rfl rfl rfl rfl (by simp [St.store1, St.storeAll, St.cellAt, St.isMem, St.root, St.wrote, St.kill, St.setRoot, TS.kill, TV.kill, C.kill, Rt.kill, hitR, hitP, shapeOf, setRow, setAt, rowAt, D.row, D.reRow, List.isPrefixOf]; rfl) ?_ -- None
  simp only [St.fresh, St.kill, St.setRoot, St.put, St.renew, TS.kill, TV.kill, C.kill, Rt.kill, boxC, List.map_cons, List.map_nil, List.filter_cons, List.filter_nil, List.set_cons_succ, List.set_cons_zero, List.contains_cons, List.contains_nil, Nat.reduceBEq, Nat.reduceBNe, St.wrote, hitR, hitP, shapeOf, List.isPrefixOf, List.append_eq, Bool.and_true, Bool.true_and, Bool.and_false, Bool.false_and, List.nil_append, List.cons_append, beq_self_eq_true, bne_self_eq_false, Bool.or_false, Bool.or_true, Bool.not_true, Bool.not_false, Bool.false_eq_true, if_true, if_false, reduceIte, resT, valsD, refsD, refD, nextD, nextsD, cellsD, isSl, List.append_nil]
  refine hK _ ?_
  clear hK K
  refine TL.nil ?_
  show TC _ _ _ _ _ _
  refine TC.seq ?_
  -- region 4
  refine TC.region ?_
  refine TL.valE rfl (by first | exact Val.field rfl rfl rfl | exact Val.fieldC rfl rfl rfl) (by simp only [St.put, List.set_cons_succ, List.set_cons_zero, List.getElem_toArray, List.getElem_cons_succ, List.getElem_cons_zero, Nat.zero_add, Nat.reduceAdd]; rfl) ?_
  refine TL.valE rfl (by first | exact Val.load rfl rfl rfl rfl rfl | exact Val.loadC rfl rfl rfl) (by simp only [St.put, List.set_cons_succ, List.set_cons_zero, valC]; rfl) ?_
  refine TL.opK rfl fun K hK => ?_
  refine OpT.callL rfl rfl rfl rfl rfl rfl ((laws_toIntS_f x.Outs hmx.2.2).k) (by repeat first | exact .nil | refine Snaps.cons (.ro _) ?_ | refine Snaps.cons (.aggRo rfl) ?_ | refine Snaps.cons (.cptr _) ?_ | refine Snaps.cons (.fn _) ?_ | refine Snaps.cons (.ownRef rfl (by first | assumption | exact w_IntS _ | exact w_IntSS _ | exact w_InsS _ | exact w_SlotS _ | exact w_GuestS _ | exact whole_map _ _ (fun w c hc => by simp only [D.row, List.mem_cons, List.not_mem_nil, or_false] at hc; subst hc; exact .v _))) ?_ | refine Snaps.cons (.aggR (by repeat first | exact .nil | refine SnapCs.cons (.ro _) ?_ | refine SnapCs.cons (.ref rfl (by first | assumption | exact w_IntS _ | exact w_IntSS _ | exact w_InsS _ | exact w_SlotS _ | exact w_GuestS _ | exact whole_map _ _ (fun w c hc => by simp only [D.row, List.mem_cons, List.not_mem_nil, or_false] at hc; subst hc; exact .v _))) ?_)) ?_) ?_ -- 14
  simp only [St.fresh, St.kill, St.setRoot, St.put, St.renew, TS.kill, TV.kill, C.kill, Rt.kill, boxC, List.map_cons, List.map_nil, List.filter_cons, List.filter_nil, List.set_cons_succ, List.set_cons_zero, List.contains_cons, List.contains_nil, Nat.reduceBEq, Nat.reduceBNe, St.wrote, hitR, hitP, shapeOf, List.isPrefixOf, List.append_eq, Bool.and_true, Bool.true_and, Bool.and_false, Bool.false_and, List.nil_append, List.cons_append, beq_self_eq_true, bne_self_eq_false, Bool.or_false, Bool.or_true, Bool.not_true, Bool.not_false, Bool.false_eq_true, if_true, if_false, reduceIte, resT, valsD, refsD, refD, nextD, nextsD, cellsD, isSl, List.append_nil]
  refine hK _ ?_
  clear hK K
  refine TL.valE rfl (by first | exact Val.field rfl rfl rfl | exact Val.fieldC rfl rfl rfl) (by simp only [St.put, List.set_cons_succ, List.set_cons_zero, List.getElem_toArray, List.getElem_cons_succ, List.getElem_cons_zero, Nat.zero_add, Nat.reduceAdd]; rfl) ?_
  refine TL.opK rfl fun K hK => ?_
  refine OpT.store (z := 1) rfl rfl rfl rfl rfl rfl (by simp [St.store1, St.storeAll, St.cellAt, St.isMem, St.root, St.wrote, St.kill, St.setRoot, TS.kill, TV.kill, C.kill, Rt.kill, hitR, hitP, shapeOf, setRow, setAt, rowAt, D.row, D.reRow, List.isPrefixOf]; rfl) ?_ -- None
  simp only [St.fresh, St.kill, St.setRoot, St.put, St.renew, TS.kill, TV.kill, C.kill, Rt.kill, boxC, List.map_cons, List.map_nil, List.filter_cons, List.filter_nil, List.set_cons_succ, List.set_cons_zero, List.contains_cons, List.contains_nil, Nat.reduceBEq, Nat.reduceBNe, St.wrote, hitR, hitP, shapeOf, List.isPrefixOf, List.append_eq, Bool.and_true, Bool.true_and, Bool.and_false, Bool.false_and, List.nil_append, List.cons_append, beq_self_eq_true, bne_self_eq_false, Bool.or_false, Bool.or_true, Bool.not_true, Bool.not_false, Bool.false_eq_true, if_true, if_false, reduceIte, resT, valsD, refsD, refD, nextD, nextsD, cellsD, isSl, List.append_nil]
  refine hK _ ?_
  clear hK K
  refine TL.nil ?_
  show TC _ _ _ _ _ _
  refine TC.seq ?_
  -- region 5
  refine TC.region ?_
  refine TL.valE rfl (by first | exact Val.field rfl rfl rfl | exact Val.fieldC rfl rfl rfl) (by simp only [St.put, List.set_cons_succ, List.set_cons_zero, List.getElem_toArray, List.getElem_cons_succ, List.getElem_cons_zero, Nat.zero_add, Nat.reduceAdd]; rfl) ?_
  refine TL.valE rfl (by first | exact Val.load rfl rfl rfl rfl rfl | exact Val.loadC rfl rfl rfl) (by simp only [St.put, List.set_cons_succ, List.set_cons_zero, valC]; rfl) ?_
  refine TL.valE rfl (by first | exact Val.field rfl rfl rfl | exact Val.fieldC rfl rfl rfl) (by simp only [St.put, List.set_cons_succ, List.set_cons_zero, List.getElem_toArray, List.getElem_cons_succ, List.getElem_cons_zero, Nat.zero_add, Nat.reduceAdd]; rfl) ?_
  refine TL.opK rfl fun K hK => ?_
  refine OpT.store (z := 1) rfl rfl rfl rfl rfl rfl (by simp [St.store1, St.storeAll, St.cellAt, St.isMem, St.root, St.wrote, St.kill, St.setRoot, TS.kill, TV.kill, C.kill, Rt.kill, hitR, hitP, shapeOf, setRow, setAt, rowAt, D.row, D.reRow, List.isPrefixOf]; rfl) ?_ -- None
  simp only [St.fresh, St.kill, St.setRoot, St.put, St.renew, TS.kill, TV.kill, C.kill, Rt.kill, boxC, List.map_cons, List.map_nil, List.filter_cons, List.filter_nil, List.set_cons_succ, List.set_cons_zero, List.contains_cons, List.contains_nil, Nat.reduceBEq, Nat.reduceBNe, St.wrote, hitR, hitP, shapeOf, List.isPrefixOf, List.append_eq, Bool.and_true, Bool.true_and, Bool.and_false, Bool.false_and, List.nil_append, List.cons_append, beq_self_eq_true, bne_self_eq_false, Bool.or_false, Bool.or_true, Bool.not_true, Bool.not_false, Bool.false_eq_true, if_true, if_false, reduceIte, resT, valsD, refsD, refD, nextD, nextsD, cellsD, isSl, List.append_nil]
  refine hK _ ?_
  clear hK K
  refine TL.nil ?_
  show TC _ _ _ _ _ _
  refine TC.seq ?_
  -- region 6
  refine TC.region ?_
  refine TL.valE rfl (by first | exact Val.loadCAgg (n := 4) rfl rfl rfl rfl (Nat.le_of_ble_eq_true rfl) | exact Val.loadAgg (n := 4) rfl rfl rfl rfl (by simp [St.cellsAt, St.cellAt, St.root, valC]; rfl) rfl | exact Val.loadAgg (n := 4) rfl rfl rfl rfl rfl rfl) (by simp only [St.put, List.set_cons_succ, List.set_cons_zero, valC, dBare, rBare, D.row, List.take_succ_cons, List.take_zero, List.map_cons, List.map_nil]; rfl) ?_
  refine TL.opK rfl fun K hK => ?_
  refine OpT.storeAgg rfl rfl rfl rfl rfl rfl (by simp [St.store1, St.storeAll, St.cellAt, St.isMem, St.root, St.wrote, St.kill, St.setRoot, TS.kill, TV.kill, C.kill, Rt.kill, hitR, hitP, shapeOf, setRow, setAt, rowAt, D.row, D.reRow, List.isPrefixOf]; rfl) ?_ -- None
  simp only [St.fresh, St.kill, St.setRoot, St.put, St.renew, TS.kill, TV.kill, C.kill, Rt.kill, boxC, List.map_cons, List.map_nil, List.filter_cons, List.filter_nil, List.set_cons_succ, List.set_cons_zero, List.contains_cons, List.contains_nil, Nat.reduceBEq, Nat.reduceBNe, St.wrote, hitR, hitP, shapeOf, List.isPrefixOf, List.append_eq, Bool.and_true, Bool.true_and, Bool.and_false, Bool.false_and, List.nil_append, List.cons_append, beq_self_eq_true, bne_self_eq_false, Bool.or_false, Bool.or_true, Bool.not_true, Bool.not_false, Bool.false_eq_true, if_true, if_false, reduceIte, resT, valsD, refsD, refD, nextD, nextsD, cellsD, isSl, List.append_nil]
  refine hK _ ?_
  clear hK K
  refine TL.nil ?_
  show TC _ _ _ _ _ _
  refine TC.ret ?_
  exact ⟨.inr rfl, [_], [_], _, rfl, by decide, rfl, by simp [refV, refC, valC], rfl, rfl⟩
end Go.Proofs.YtdlpmcjpbcbbjaaDoor.T

