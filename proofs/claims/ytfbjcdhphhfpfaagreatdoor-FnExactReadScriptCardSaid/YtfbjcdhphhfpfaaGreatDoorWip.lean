/- Lines of actions: both sides, and the law's own walk. PRINTED by gen.py out of spec_act.py. -/
import Derived.Test.YtfbjcdhphhfpfaaGreatDoorT3p
import Derived.Test.YtfbjcdhphhfpfaaGreatDoorWgp
namespace Go.Proofs.YtfbjcdhphhfpfaaGreatDoor.T
open Go
set_option linter.unusedVariables false
set_option linter.unusedSimpArgs false
set_option maxRecDepth 100000
set_option maxHeartbeats 1000000

theorem actUses_size (k : Int) : (actUses k).size ≤ 5 := by
  unfold actUses
  repeat' split
  all_goals decide +kernel
theorem spec_ActLine_f (x : VAct) : Fun Tryz.prog 27 [A (rAct x)] (RV (.string (actLine x))) := by
  refine Fun.of Tryz.func27 rfl (by simp [Tryz.ntmps27]) fun w g0 => ?_
  simp only [Tryz.ntmps27, List.length_cons, List.length_nil, Nat.reduceAdd, Nat.reduceSub, List.replicate, List.cons_append, List.nil_append]
  refine TC.seq ?_
  refine TC.region ?_
  refine TL.opK rfl fun K hK => ?_
  first | refine OpT.box rfl rfl (z := 1) rfl (by simp) ?_ | refine OpT.boxAgg rfl rfl rfl ?_
  simp only [nrm, Nat.reduceBEq, Nat.reduceBNe, reduceIte]
  refine hK _ ?_
  clear hK K
  refine TL.vE (Val.assign 1 rfl rfl) ?_
  refine TL.nil ?_
  show TC _ _ _ _ _ _
  refine TC.seq ?_
  refine TC.seq ?_
  refine TC.region ?_
  refine TL.valE rfl (by first | exact Val.loadCAgg (n := 6) rfl rfl rfl rfl (Nat.le_of_ble_eq_true rfl) | exact Val.loadAgg (n := 6) rfl rfl rfl rfl (by simp [St.cellsAt, St.cellAt, St.root, valC]; rfl) rfl | exact Val.loadAgg (n := 6) rfl rfl rfl rfl rfl rfl) (by simp only [St.put, List.set_cons_succ, List.set_cons_zero, valC, dAct, rAct, D.row, List.take_succ_cons, List.take_zero, List.map_cons, List.map_nil]; rfl) ?_
  refine TL.cF ((spec_ActOk_f x).k) ?_
  refine TL.vE (Val.not rfl rfl) ?_
  refine TL.nil ?_
  show TC _ _ _ _ _ _
  refine TC.cond rfl (fun hb => ?_) (fun hb => ?_)
  · refine TC.seq ?_
    refine TC.region ?_
    refine TL.vE (Val.assign 1 rfl rfl) ?_
    refine TL.nil ?_
    show TC _ _ _ _ _ _
    refine TC.ret ?_
    exact ⟨.inr rfl, [_], [_], _, rfl, by decide, rfl, by simp [refV, refC, valC], rfl, resV (by unfold actLine; rw [if_neg (by simpa using hb)])⟩
  · refine TC.skip ?_
    show TC _ _ _ _ _ _
    refine TC.seq ?_
    have hko : inR x.Kind 1 17 = true := by simpa using hb
    have hz := actName_size x.Kind
    refine TC.region ?_
    refine TL.fld ?_
    refine TL.ld ?_
    refine TL.cF ((spec_ActName_f x.Kind).k) ?_
    refine TL.vE (Val.assign 1 rfl rfl) ?_
    refine TL.nil ?_
    show TC _ _ _ _ _ _
    refine TC.seq ?_
    refine TC.region ?_
    refine TL.fld ?_
    refine TL.ld ?_
    refine TL.cF ((spec_ActUses_f x.Kind).k) ?_
    refine TL.vE (Val.assign 1 rfl rfl) ?_
    refine TL.nil ?_
    show TC _ _ _ _ _ _
    refine TC.seq ?_
    refine TC.region ?_
    refine TL.fld ?_
    refine TL.ld ?_
    refine TL.fld ?_
    refine TL.ld ?_
    refine TL.fld ?_
    refine TL.ld ?_
    refine TL.fld ?_
    refine TL.ld ?_
    refine TL.fld ?_
    refine TL.ld ?_
    refine TL.opK rfl fun K hK => ?_
    refine OpT.buildP rfl rfl (xs := [(Go.Operand.tmp 19), (Go.Operand.tmp 21), (Go.Operand.tmp 23), (Go.Operand.tmp 25), (Go.Operand.tmp 27)]) rfl rfl (tvs := (actNums x).map fun n => .c (.ro (.v (.int .i64 n)))) rfl rfl (sz := 1) rfl rfl rfl (by decide) (by decide) ?_
    simp only [nrm, Nat.reduceBEq, Nat.reduceBNe, reduceIte]
    refine hK _ ?_
    clear hK K
    refine TL.vE (Val.assign 1 rfl rfl) ?_
    refine TL.nil ?_
    show TC _ _ _ _ _ _
    refine TC.seq ?_
    refine TC.seq ?_
    refine TC.region ?_
    refine TL.vE (Val.assign 1 rfl rfl) ?_
    refine TL.nil ?_
    show TC _ _ _ _ _ _
    refine TC.block ?_
    refine TC.loop (fun μ st => ∃ (k : Nat) (s : ByteArray), (k ≤ 5 ∧ actLine x = lineGo (usesL x) ((actPairs x).drop k) s ∧ s.size ≤ 6 + 22 * k) ∧ μ = 5 - k ∧ Can st ⟨[.one .dead, .one (.ptr ⟨1, [], 0⟩), .one .dead, S s, S (actUses x.Kind), .one (.c (.ref ⟨28, [], 0⟩)), I k, .one .dead, .one .dead, .one .dead, .one .dead, .one .dead, .one .dead, .one .dead, .one .dead, .one .dead, .one .dead, .one .dead, .one .dead, .one .dead, .one .dead, .one .dead, .one .dead, .one .dead, .one .dead, .one .dead, .one .dead, .one .dead, .one .dead, .one .dead, .one .dead, .one .dead, .one .dead, .one .dead, .one .dead, .one .dead, .one .dead, .one .dead, .one .dead, .one .dead, .one .dead, .one .dead, .one .dead, .one .dead, .one .dead, .one .dead, .one .dead, .one .dead, .one .dead, .one .dead, .one .dead, .one .dead, .one .dead, .one .dead, .one .dead, .one .dead, .one .dead, .one .dead, .one .dead, .one .dead, .one .dead, .one .dead, .one .dead, .one .dead, .one .dead, .one .dead, .one .dead, .one .dead, .one .dead, .one .dead, .one .dead, .one .dead, .one .dead, .one .dead, .one .dead], [(28, ⟨false, [.own (.sl 1 ((actNums x).map dInt))]⟩)]⟩) (5) ?_ fun μ st hI => ?_
    · refine ⟨0, actName x.Kind, ⟨by omega, by rw [actLine, if_pos hko]; rfl, by omega⟩, by simp, ?_⟩
      exact Can.to (by repeat first | exact LessT.nil | refine LessT.drop ?_ | refine LessT.keep ?_ | refine LessT.eq (by first | (simp; done) | rfl) ?_) (.cons rfl rfl .nil)
    · obtain ⟨k, s, hyp, rfl, hcan⟩ := hI
      refine TC.can hcan ?_
      clear hcan
      refine TC.seq ?_
      refine TC.seq ?_
      refine TC.region ?_
      refine TL.vE (Val.move 1 rfl rfl) ?_
      refine TL.vE (Val.lss rfl rfl rfl) ?_
      refine TL.nil ?_
      show TC _ _ _ _ _ _
      refine TC.cond rfl (fun hb => ?_) (fun hb => ?_)
      · refine TC.skip ?_
        show TC _ _ _ _ _ _
        refine TC.seq ?_
        refine TC.block ?_
        refine TC.seq ?_
        have hk : k < 5 := by simp at hb; omega
        have hus := actUses_size x.Kind
        obtain ⟨c, n, hp, hc, hrow, hpt, hc8, hnum⟩ := act_at x hk
        have hst := lineGo_drop (uses := usesL x) hp s
        have hcl := letter_at hc
        simp only [actCells] at hrow
        have hnum2 : (actNums x)[k]? = some n := hnum
        refine TC.region ?_
        refine TL.vE (Val.assign 1 rfl rfl) ?_
        refine TL.nil ?_
        show TC _ _ _ _ _ _
        refine TC.seq ?_
        refine TC.seq ?_
        refine TC.region ?_
        refine TL.vE (Val.assign 1 rfl rfl) ?_
        refine TL.nil ?_
        show TC _ _ _ _ _ _
        refine TC.block ?_
        refine TC.loop (fun μ st => ∃ (j : Nat) (u : Bool), (j ≤ (actUses x.Kind).size ∧ u = ((usesL x).take j).contains c) ∧ μ = (actUses x.Kind).size - j ∧ Can st ⟨[.one .dead, .one (.ptr ⟨1, [], 0⟩), .one .dead, S s, S (actUses x.Kind), .one (.c (.ref ⟨28, [], 0⟩)), I k, B u, I j, .one .dead, .one .dead, .one .dead, .one .dead, .one .dead, .one .dead, .one .dead, .one .dead, .one .dead, .one .dead, .one .dead, .one .dead, .one .dead, .one .dead, .one .dead, .one .dead, .one .dead, .one .dead, .one .dead, .one .dead, .one .dead, .one .dead, .one .dead, .one .dead, .one .dead, .one .dead, .one .dead, .one .dead, .one .dead, .one .dead, .one .dead, .one .dead, .one .dead, .one .dead, .one .dead, .one .dead, .one .dead, .one .dead, .one .dead, .one .dead, .one .dead, .one .dead, .one .dead, .one .dead, .one .dead, .one .dead, .one .dead, .one .dead, .one .dead, .one .dead, .one .dead, .one .dead, .one .dead, .one .dead, .one .dead, .one .dead, .one .dead, .one .dead, .one .dead, .one .dead, .one .dead, .one .dead, .one .dead, .one .dead, .one .dead, .one .dead], [(28, ⟨false, [.own (.sl 1 ((actNums x).map dInt))]⟩)]⟩) ((actUses x.Kind).size) ?_ fun μ st hI => ?_
        · refine ⟨0, false, ⟨by omega, rfl⟩, rfl, ?_⟩
          exact Can.to (by repeat first | exact LessT.nil | refine LessT.drop ?_ | refine LessT.keep ?_ | refine LessT.eq (by first | (simp; done) | rfl) ?_) (.cons rfl rfl .nil)
        · obtain ⟨j, u, hypj, rfl, hcan⟩ := hI
          refine TC.can hcan ?_
          clear hcan
          refine TC.seq ?_
          refine TC.seq ?_
          refine TC.region ?_
          refine TL.vE (Val.move 1 rfl rfl) ?_
          refine TL.vE (Val.move 1 rfl rfl) ?_
          refine TL.vE (by first | exact Val.len rfl rfl rfl rfl | exact Val.lenS rfl rfl rfl) ?_
          refine TL.vE (Val.lss rfl rfl rfl) ?_
          refine TL.nil ?_
          show TC _ _ _ _ _ _
          refine TC.cond rfl (fun hb => ?_) (fun hb => ?_)
          · refine TC.skip ?_
            show TC _ _ _ _ _ _
            refine TC.seq ?_
            refine TC.block ?_
            have hj : j < (actUses x.Kind).size := by simp at hb; omega
            obtain ⟨d, hd, hdl⟩ := ba_at hj
            have hcs := contains_step (l := usesL x) (c := c) hdl
            refine TC.regionQ rfl (by decide +kernel) ?_
            refine TQ.vE (Val.move 1 rfl rfl) ?_
            refine TQ.vE (Val.move 1 rfl rfl) ?_
            refine TQ.splitG 1 rfl (fun hg1 => ?_) (fun hg1 => ?_)
            · iterate 6 (refine TQ.skip (nope_b rfl rfl hg1) (by simp only [nput]; rfl) ?_)
              refine TQ.vE (Val.pickT rfl rfl hg1 rfl) ?_
              refine TQ.vE (Val.assign 1 rfl rfl) ?_
              refine TQ.nil ?_
              show TC _ _ _ _ _ _
              refine TC.region ?_
              refine TL.vE (Val.move 1 rfl rfl) ?_
              refine TL.vE (Val.addO rfl rfl rfl) ?_
              refine TL.vE (Val.assign 1 rfl rfl) ?_
              refine TL.nil ?_
              first | refine Seq.normal ⟨_, ?_, j + 1, true, ?_, rfl, ?_⟩ | refine Seq.normal (Q := fun _ _ => True) ⟨_, ?_, j + 1, true, ?_, rfl, ?_⟩
              · omega
              · exact ⟨by omega, by rw [hcs, ← hypj.2]; simp_all⟩
              · exact Can.to (by repeat first | exact LessT.nil | refine LessT.drop ?_ | refine LessT.keep ?_ | refine LessT.eq (by first | (simp; done) | rfl) ?_) (.cons rfl rfl .nil)
            · refine TQ.guardE rfl rfl hg1 (Val.move 1 rfl rfl) (by simp only [nput]; rfl) ?_
              refine TQ.guardE rfl rfl hg1 (Val.move 1 rfl rfl) (by simp only [nput]; rfl) ?_
              refine TQ.guardE rfl rfl hg1 (by exact Val.indexS rfl rfl rfl rfl (by omega) hd) (by simp only [nput]; rfl) ?_
              refine TQ.guardE rfl rfl hg1 (Val.move 1 rfl rfl) (by simp only [nput]; rfl) ?_
              refine TQ.guardE rfl rfl hg1 (by exact Val.indexS rfl rfl rfl rfl (by omega) hcl) (by simp only [nput]; rfl) ?_
              refine TQ.guardE rfl rfl hg1 (Val.eql rfl rfl rfl) (by simp only [nput]; rfl) ?_
              refine TQ.vE (Val.pickF rfl rfl hg1 rfl) ?_
              refine TQ.vE (Val.assign 1 rfl rfl) ?_
              refine TQ.nil ?_
              show TC _ _ _ _ _ _
              refine TC.region ?_
              refine TL.vE (Val.move 1 rfl rfl) ?_
              refine TL.vE (Val.addO rfl rfl rfl) ?_
              refine TL.vE (Val.assign 1 rfl rfl) ?_
              refine TL.nil ?_
              first | refine Seq.normal ⟨_, ?_, j + 1, ((d.toNat : Int) == (c.toNat : Int)), ?_, rfl, ?_⟩ | refine Seq.normal (Q := fun _ _ => True) ⟨_, ?_, j + 1, ((d.toNat : Int) == (c.toNat : Int)), ?_, rfl, ?_⟩
              · omega
              · exact ⟨by omega, by rw [hcs, ← hypj.2]; simp_all⟩
              · exact Can.to (by repeat first | exact LessT.nil | refine LessT.drop ?_ | refine LessT.keep ?_ | refine LessT.eq (by first | (simp; done) | rfl) ?_) (.cons rfl rfl .nil)
          · refine TC.exit ?_
            show TC _ _ _ _ _ _
            refine TC.seq ?_
            refine TC.seq ?_
            have hju : j = (actUses x.Kind).size := by simp at hb; omega
            have huu : u = (usesL x).contains c := by rw [hypj.2, List.take_of_length_le (by rw [hju]; exact Nat.le_refl _)]
            subst huu
            refine TC.region ?_
            refine TL.vE (Val.move 1 rfl rfl) ?_
            refine TL.vE (Val.not rfl rfl) ?_
            refine TL.vE (Val.move 1 rfl rfl) ?_
            refine TL.splitG 2 rfl (fun hg2 => ?_) (fun hg2 => ?_)
            · refine TL.gE rfl hg2 (Val.move 1 rfl rfl) ?_
              refine TL.gE rfl hg2 (Val.move 1 rfl rfl) ?_
              refine TL.gE rfl hg2 (by exact Val.index rfl rfl rfl rfl rfl rfl (by omega) (by simp [actNums]; omega)) ?_
              refine TL.guardE rfl rfl hg2 (by exact Val.load rfl rfl rfl (c := .own (.v (.int .i64 n))) (by simp [St.cellAt, St.root, rowAt, D.row, hnum2]) rfl) (by simp only [nput, valC]; rfl) ?_
              refine TL.gE rfl hg2 (Val.neq rfl rfl rfl) ?_
              refine TL.vE (Val.pickT rfl rfl hg2 rfl) ?_
              refine TL.vE (Val.move 1 rfl rfl) ?_
              refine TL.splitG 9 rfl (fun hg9 => ?_) (fun hg9 => ?_)
              · iterate 6 (refine TL.skip (nope_b rfl rfl hg9) (by simp only [nput]; rfl) ?_)
                refine TL.vE (Val.pickT rfl rfl hg9 rfl) ?_
                refine TL.nil ?_
                show TC _ _ _ _ _ _
                refine TC.cond rfl (fun hb => ?_) (fun hb => absurd hb (by simp))
                refine TC.seq ?_
                refine TC.region ?_
                refine TL.vE (Val.assign 1 rfl rfl) ?_
                refine TL.nil ?_
                show TC _ _ _ _ _ _
                refine TC.ret ?_
                exact ⟨.inr rfl, [_], [_], _, rfl, by decide, rfl, by simp [refV, refC, valC], rfl, resV (by first | (exfalso; simp_all; done) | (exfalso; simp_all [inR]; done) | (rw [hyp.2.1, hst]; simp_all [usesL]; done))⟩
              · refine TL.gE rfl hg9 (Val.move 1 rfl rfl) ?_
                refine TL.gE rfl hg9 (Val.move 1 rfl rfl) ?_
                refine TL.gE rfl hg9 (by exact Val.index rfl rfl rfl rfl rfl rfl (by omega) (by simp [actNums]; omega)) ?_
                refine TL.guardE rfl rfl hg9 (by exact Val.load rfl rfl rfl (c := .own (.v (.int .i64 n))) (by simp [St.cellAt, St.root, rowAt, D.row, hnum2]) rfl) (by simp only [nput, valC]; rfl) ?_
                refine TL.cF ((spec_l01In_f _ _ _).k) ?_ (yes_some rfl rfl hg9)
                refine TL.gE rfl hg9 (Val.not rfl rfl) ?_
                refine TL.vE (Val.pickF rfl rfl hg9 rfl) ?_
                refine TL.nil ?_
                show TC _ _ _ _ _ _
                refine TC.cond rfl (fun hb => ?_) (fun hb => ?_)
                · refine TC.seq ?_
                  refine TC.region ?_
                  refine TL.vE (Val.assign 1 rfl rfl) ?_
                  refine TL.nil ?_
                  show TC _ _ _ _ _ _
                  refine TC.ret ?_
                  exact ⟨.inr rfl, [_], [_], _, rfl, by decide, rfl, by simp [refV, refC, valC], rfl, resV (by first | (exfalso; simp_all; done) | (exfalso; simp_all [inR]; done) | (rw [hyp.2.1, hst]; simp_all [usesL]; done))⟩
                · refine TC.skip ?_
                  show TC _ _ _ _ _ _
                  refine TC.seq ?_
                  refine TC.region ?_
                  refine TL.vE (Val.move 1 rfl rfl) ?_
                  refine TL.nil ?_
                  show TC _ _ _ _ _ _
                  refine TC.cond rfl (fun hb => ?_) (fun hb => ?_)
                  · have hu : inR n 0 1000000000 = true := by simp_all
                    have hi : I64 n := by simp only [inR, Bool.and_eq_true, decide_eq_true_eq] at hu; exact ⟨by omega, by omega⟩
                    have hz2 := dec_size hi.1 hi.2
                    refine TC.region ?_
                    refine TL.vE (Val.move 1 rfl rfl) ?_
                    refine TL.vE (Val.addS rfl rfl rfl (by first | decide | omega | (simp [lit_size, ByteArray.size_append, strOfNums_size]; omega))) ?_
                    refine TL.vE (Val.move 1 rfl rfl) ?_
                    refine TL.vE (Val.move 1 rfl rfl) ?_
                    refine TL.vE (by exact Val.index rfl rfl rfl rfl rfl rfl (by omega) (by simp [actNums]; omega)) ?_
                    refine TL.valE rfl (by exact Val.load rfl rfl rfl (c := .own (.v (.int .i64 n))) (by simp [St.cellAt, St.root, rowAt, D.row, hnum2]) rfl) (by simp only [nput, valC]; rfl) ?_
                    refine TL.cF ((spec_Decimal_f n hi).k) ?_
                    refine TL.vE (Val.addS rfl rfl rfl (by first | decide | omega | (simp [lit_size, ByteArray.size_append, strOfNums_size]; omega))) ?_
                    refine TL.vE (Val.assign 1 rfl rfl) ?_
                    refine TL.nil ?_
                    show TC _ _ _ _ _ _
                    refine TC.region ?_
                    refine TL.vE (Val.move 1 rfl rfl) ?_
                    refine TL.vE (Val.addO rfl rfl rfl) ?_
                    refine TL.vE (Val.assign 1 rfl rfl) ?_
                    refine TL.nil ?_
                    first | refine Seq.normal ⟨_, ?_, k + 1, s ++ ⟨#[32]⟩ ++ dec n, ?_, rfl, ?_⟩ | refine Seq.normal (Q := fun _ _ => True) ⟨_, ?_, k + 1, s ++ ⟨#[32]⟩ ++ dec n, ?_, rfl, ?_⟩
                    · omega
                    · exact ⟨by omega, by (first | (exfalso; simp_all; done) | (rw [hyp.2.1, hst]; simp_all [usesL])), by simp only [ByteArray.size_append, lit_size, List.size_toArray, List.length_cons, List.length_nil]; omega⟩
                    · exact Can.to (by repeat first | exact LessT.nil | refine LessT.drop ?_ | refine LessT.keep ?_ | refine LessT.eq (by first | (simp; done) | rfl) ?_) (.cons rfl rfl .nil)
                  · refine TC.skip ?_
                    show TC _ _ _ _ _ _
                    refine TC.region ?_
                    refine TL.vE (Val.move 1 rfl rfl) ?_
                    refine TL.vE (Val.addO rfl rfl rfl) ?_
                    refine TL.vE (Val.assign 1 rfl rfl) ?_
                    refine TL.nil ?_
                    first | refine Seq.normal ⟨_, ?_, k + 1, s, ?_, rfl, ?_⟩ | refine Seq.normal (Q := fun _ _ => True) ⟨_, ?_, k + 1, s, ?_, rfl, ?_⟩
                    · omega
                    · exact ⟨by omega, by (first | (exfalso; simp_all; done) | (rw [hyp.2.1, hst]; simp_all [usesL])), by omega⟩
                    · exact Can.to (by repeat first | exact LessT.nil | refine LessT.drop ?_ | refine LessT.keep ?_ | refine LessT.eq (by first | (simp; done) | rfl) ?_) (.cons rfl rfl .nil)
            · iterate 5 (refine TL.skip (nope_b rfl rfl hg2) (by simp only [nput]; rfl) ?_)
              refine TL.vE (Val.pickF rfl rfl hg2 rfl) ?_
              refine TL.vE (Val.move 1 rfl rfl) ?_
              refine TL.gE rfl rfl (Val.move 1 rfl rfl) ?_
              refine TL.gE rfl rfl (Val.move 1 rfl rfl) ?_
              refine TL.gE rfl rfl (by exact Val.index rfl rfl rfl rfl rfl rfl (by omega) (by simp [actNums]; omega)) ?_
              refine TL.guardE rfl rfl rfl (by exact Val.load rfl rfl rfl (c := .own (.v (.int .i64 n))) (by simp [St.cellAt, St.root, rowAt, D.row, hnum2]) rfl) (by simp only [nput, valC]; rfl) ?_
              refine TL.cF ((spec_l01In_f _ _ _).k) ?_ (yes_some rfl rfl rfl)
              refine TL.gE rfl rfl (Val.not rfl rfl) ?_
              refine TL.vE (Val.pickF rfl rfl rfl rfl) ?_
              refine TL.nil ?_
              show TC _ _ _ _ _ _
              refine TC.cond rfl (fun hb => ?_) (fun hb => ?_)
              · refine TC.seq ?_
                refine TC.region ?_
                refine TL.vE (Val.assign 1 rfl rfl) ?_
                refine TL.nil ?_
                show TC _ _ _ _ _ _
                refine TC.ret ?_
                exact ⟨.inr rfl, [_], [_], _, rfl, by decide, rfl, by simp [refV, refC, valC], rfl, resV (by first | (exfalso; simp_all; done) | (exfalso; simp_all [inR]; done) | (rw [hyp.2.1, hst]; simp_all [usesL]; done))⟩
              · refine TC.skip ?_
                show TC _ _ _ _ _ _
                refine TC.seq ?_
                refine TC.region ?_
                refine TL.vE (Val.move 1 rfl rfl) ?_
                refine TL.nil ?_
                show TC _ _ _ _ _ _
                refine TC.cond rfl (fun hb => ?_) (fun hb => ?_)
                · have hu : inR n 0 1000000000 = true := by simp_all
                  have hi : I64 n := by simp only [inR, Bool.and_eq_true, decide_eq_true_eq] at hu; exact ⟨by omega, by omega⟩
                  have hz2 := dec_size hi.1 hi.2
                  refine TC.region ?_
                  refine TL.vE (Val.move 1 rfl rfl) ?_
                  refine TL.vE (Val.addS rfl rfl rfl (by first | decide | omega | (simp [lit_size, ByteArray.size_append, strOfNums_size]; omega))) ?_
                  refine TL.vE (Val.move 1 rfl rfl) ?_
                  refine TL.vE (Val.move 1 rfl rfl) ?_
                  refine TL.vE (by exact Val.index rfl rfl rfl rfl rfl rfl (by omega) (by simp [actNums]; omega)) ?_
                  refine TL.valE rfl (by exact Val.load rfl rfl rfl (c := .own (.v (.int .i64 n))) (by simp [St.cellAt, St.root, rowAt, D.row, hnum2]) rfl) (by simp only [nput, valC]; rfl) ?_
                  refine TL.cF ((spec_Decimal_f n hi).k) ?_
                  refine TL.vE (Val.addS rfl rfl rfl (by first | decide | omega | (simp [lit_size, ByteArray.size_append, strOfNums_size]; omega))) ?_
                  refine TL.vE (Val.assign 1 rfl rfl) ?_
                  refine TL.nil ?_
                  show TC _ _ _ _ _ _
                  refine TC.region ?_
                  refine TL.vE (Val.move 1 rfl rfl) ?_
                  refine TL.vE (Val.addO rfl rfl rfl) ?_
                  refine TL.vE (Val.assign 1 rfl rfl) ?_
                  refine TL.nil ?_
                  first | refine Seq.normal ⟨_, ?_, k + 1, s ++ ⟨#[32]⟩ ++ dec n, ?_, rfl, ?_⟩ | refine Seq.normal (Q := fun _ _ => True) ⟨_, ?_, k + 1, s ++ ⟨#[32]⟩ ++ dec n, ?_, rfl, ?_⟩
                  · omega
                  · exact ⟨by omega, by (first | (exfalso; simp_all; done) | (rw [hyp.2.1, hst]; simp_all [usesL])), by simp only [ByteArray.size_append, lit_size, List.size_toArray, List.length_cons, List.length_nil]; omega⟩
                  · exact Can.to (by repeat first | exact LessT.nil | refine LessT.drop ?_ | refine LessT.keep ?_ | refine LessT.eq (by first | (simp; done) | rfl) ?_) (.cons rfl rfl .nil)
                · refine TC.skip ?_
                  show TC _ _ _ _ _ _
                  refine TC.region ?_
                  refine TL.vE (Val.move 1 rfl rfl) ?_
                  refine TL.vE (Val.addO rfl rfl rfl) ?_
                  refine TL.vE (Val.assign 1 rfl rfl) ?_
                  refine TL.nil ?_
                  first | refine Seq.normal ⟨_, ?_, k + 1, s, ?_, rfl, ?_⟩ | refine Seq.normal (Q := fun _ _ => True) ⟨_, ?_, k + 1, s, ?_, rfl, ?_⟩
                  · omega
                  · exact ⟨by omega, by (first | (exfalso; simp_all; done) | (rw [hyp.2.1, hst]; simp_all [usesL])), by omega⟩
                  · exact Can.to (by repeat first | exact LessT.nil | refine LessT.drop ?_ | refine LessT.keep ?_ | refine LessT.eq (by first | (simp; done) | rfl) ?_) (.cons rfl rfl .nil)
      · refine TC.exit ?_
        show TC _ _ _ _ _ _
        refine TC.seq ?_
        refine TC.region ?_
        refine TL.vE (Val.move 1 rfl rfl) ?_
        refine TL.vE (Val.assign 1 rfl rfl) ?_
        refine TL.nil ?_
        show TC _ _ _ _ _ _
        refine TC.ret ?_
        exact ⟨.inr rfl, [_], [_], _, rfl, by decide, rfl, by simp [refV, refC, valC], rfl, resV (by have hk5 : k = 5 := (by simp at hb; omega); subst hk5; rw [hyp.2.1]; rfl)⟩
end Go.Proofs.YtfbjcdhphhfpfaaGreatDoor.T

