/- Lines of actions: both sides, and the law's own walk. PRINTED by gen.py out of spec_act.py. -/
import Derived.Test.YtfbjcdhphhfpfaaGreatDoorT3p
import Derived.Test.YtfbjcdhphhfpfaaGreatDoorWgp
namespace Go.Proofs.YtfbjcdhphhfpfaaGreatDoor.T
open Go
set_option linter.unusedVariables false
set_option linter.unusedSimpArgs false
set_option maxRecDepth 100000
set_option maxHeartbeats 1000000

theorem impl_ActLine_f (x : VAct) : FunW (Tab) Tryz.prog 37 [A (rAct x)] (RV (.string (actLine x))) := by
  refine FunW.of (Tab.keep) Tryz.func37 rfl (by simp [Tryz.ntmps37]) fun w g0 hW => ?_
  simp only [Tryz.ntmps37, List.length_cons, List.length_nil, Nat.reduceAdd, Nat.reduceSub, List.replicate, List.cons_append, List.nil_append]
  refine TC.seq ?_
  refine TC.region ?_
  refine TL.opK rfl fun K hK => ?_
  first | refine OpT.box rfl rfl (z := 1) rfl (by simp) ?_ | refine OpT.boxAgg rfl rfl rfl ?_
  simp only [nrm, Nat.reduceBEq, Nat.reduceBNe, reduceIte]
  refine hK _ ?_
  clear hK K
  refine TL.vE (Val.assign 1 rfl rfl) ?_
  refine TL.nil ?_
  show TC _ _ _ _ _ _
  refine TC.seq ?_
  refine TC.seq ?_
  refine TC.region ?_
  refine TL.valE rfl (by first | exact Val.loadCAgg (n := 6) rfl rfl rfl rfl (Nat.le_of_ble_eq_true rfl) | exact Val.loadAgg (n := 6) rfl rfl rfl rfl (by simp [St.cellsAt, St.cellAt, St.root, valC]; rfl) rfl | exact Val.loadAgg (n := 6) rfl rfl rfl rfl rfl rfl) (by simp only [St.put, List.set_cons_succ, List.set_cons_zero, valC, dAct, rAct, D.row, List.take_succ_cons, List.take_zero, List.map_cons, List.map_nil]; rfl) ?_
  refine TL.cF ((impl_ActOk_f x).k) ?_
  refine TL.vE (Val.not rfl rfl) ?_
  refine TL.nil ?_
  show TC _ _ _ _ _ _
  refine TC.cond rfl (fun hb => ?_) (fun hb => ?_)
  · refine TC.seq ?_
    refine TC.region ?_
    refine TL.vE (Val.assign 1 rfl rfl) ?_
    refine TL.nil ?_
    show TC _ _ _ _ _ _
    refine TC.ret ?_
    exact ⟨.inr rfl, [_], [_], _, rfl, by decide, rfl, by simp [refV, refC, valC], rfl, resV (by unfold actLine; rw [if_neg (by simpa using hb)])⟩
  · refine TC.skip ?_
    show TC _ _ _ _ _ _
    refine TC.seq ?_
    have hko : inR x.Kind 1 17 = true := by simpa using hb
    have hz := actName_size x.Kind
    refine TC.region ?_
    refine TL.fld ?_
    refine TL.ld ?_
    refine TL.cF ((impl_ActName_f x.Kind).k) ?_
    refine TL.vE (Val.assign 1 rfl rfl) ?_
    refine TL.nil ?_
    show TC _ _ _ _ _ _
    refine TC.seq ?_
    refine TC.seq ?_
    refine TC.region ?_
    refine TL.fields (yes_none rfl) rfl rfl (by simp only [nput]; rfl) ?_
    refine TL.vE (by exact Val.lenTab rfl rfl rfl) ?_
    refine TL.vE (Val.move 1 rfl rfl) ?_
    refine TL.nil ?_
    show TC _ _ _ _ _ _
    refine TC.block ?_
    refine TC.loop (fun μ st => ∃ (k : Nat) (s : ByteArray), (k ≤ 5 ∧ actLine x = lineGo (usesL x) ((actPairs x).drop k) s ∧ s.size ≤ 6 + 22 * k) ∧ μ = 5 - k ∧ Can st ⟨[.one .dead, .one (.ptr ⟨1, [], 0⟩), .one .dead, S s, .one .dead, .one .dead, .one .dead, .one .dead, .one .dead, .one .dead, .one .dead, .one .dead, .one .dead, .one (.tab actPtrs), I 5, I k, .one .dead, .one .dead, .one .dead, .one .dead, .one .dead, .one .dead, .one .dead, .one .dead, .one .dead, .one .dead, .one .dead, .one .dead, .one .dead, .one .dead, .one .dead, .one .dead, .one .dead, .one .dead, .one .dead, .one .dead, .one .dead, .one .dead, .one .dead, .one .dead, .one .dead, .one .dead, .one .dead, .one .dead, .one .dead, .one .dead, .one .dead, .one .dead, .one .dead, .one .dead, .one .dead, .one .dead], [(1, ⟨true, [.own (.v (.int .i64 x.Kind)), .own (.v (.int .i64 x.M)), .own (.v (.int .i64 x.G)), .own (.v (.int .i64 x.X)), .own (.v (.int .i64 x.Y)), .own (.v (.int .i64 x.Z))]⟩)]⟩) (5) ?_ fun μ st hI => ?_
    · refine ⟨0, actName x.Kind, ⟨by omega, by rw [actLine, if_pos hko]; rfl, by omega⟩, by simp, ?_⟩
      exact Can.to (by repeat first | exact LessT.nil | refine LessT.drop ?_ | refine LessT.keep ?_ | refine LessT.eq (by first | (simp; done) | rfl) ?_) (.cons rfl rfl .nil)
    · obtain ⟨k, s, hyp, rfl, hcan⟩ := hI
      refine TC.can hcan ?_
      clear hcan
      refine TC.seq ?_
      refine TC.region ?_
      refine TL.vE (Val.lss rfl rfl rfl) ?_
      refine TL.nil ?_
      show TC _ _ _ _ _ _
      refine TC.seq ?_
      refine TC.cond rfl (fun hb => ?_) (fun hb => ?_)
      · refine TC.skip ?_
        show TC _ _ _ _ _ _
        refine TC.seq ?_
        refine TC.block ?_
        refine TC.seq ?_
        have hk : k < 5 := by simp at hb; omega
        obtain ⟨c, n, hp, hc, hrow, hpt, hc8, hnum⟩ := act_at x hk
        have hst := lineGo_drop (uses := usesL x) hp s
        have hcl := letter_at hc
        simp only [actCells] at hrow
        refine TC.region ?_
        refine TL.vE (Val.move 1 rfl rfl) ?_
        refine TL.vE (by exact Val.indexTab rfl rfl rfl rfl rfl (by omega) (by simp [actPtrs]; omega)) ?_
        refine TL.valE rfl (by exact Val.loadTab rfl rfl hpt rfl) (by simp only [nput, valC]; rfl) ?_
        refine TL.vE (Val.assign 1 rfl rfl) ?_
        refine TL.vE (Val.assign 1 rfl rfl) ?_
        refine TL.nil ?_
        show TC _ _ _ _ _ _
        refine TC.seq ?_
        refine TC.regionQ rfl (by decide +kernel) ?_
        refine TQ.valE rfl (by first | exact Val.field rfl rfl rfl | exact Val.fieldC rfl rfl rfl) (by simp only [nput, npf, Nat.reduceAdd]; rfl) ?_
        refine TQ.valE rfl (by first | exact Val.load rfl rfl rfl rfl rfl | exact Val.loadC rfl rfl rfl) (by simp only [nput, valC]; rfl) ?_
        refine TQ.callF (yes_none rfl) rfl rfl rfl rfl rfl rfl ((impl_ActUses_f x.Kind).k) (by repeat first | exact .nil | refine Snaps.cons (.ro _) ?_ | refine Snaps.cons (.aggRo rfl) ?_ | refine Snaps.cons (.cptr _) ?_ | refine Snaps.cons (.fn _) ?_ | refine Snaps.cons (.ownRef rfl (by first | assumption)) ?_ | refine Snaps.cons (.aggR (by repeat first | exact .nil | refine SnapCs.cons (.ro _) ?_ | refine SnapCs.cons (.ref rfl (by first | assumption)) ?_)) ?_) rfl (by simp only [nput]; rfl) ?_
        refine TQ.vE (Val.move 1 rfl rfl) ?_
        refine TQ.vE (by exact Val.indexS rfl rfl rfl rfl (by omega) hcl) ?_
        refine TQ.vE (by exact Val.conv rfl rfl rfl rfl rfl (k' := .i32) (b := c.toNat) (wrap_i32 (by omega) (by omega))) ?_
        refine TQ.callF (yes_none rfl) rfl rfl rfl rfl rfl rfl ((containsRune_f (actUses x.Kind) c hc8).k) (by repeat first | exact .nil | refine Snaps.cons (.ro _) ?_ | refine Snaps.cons (.aggRo rfl) ?_ | refine Snaps.cons (.cptr _) ?_ | refine Snaps.cons (.fn _) ?_ | refine Snaps.cons (.ownRef rfl (by first | assumption)) ?_ | refine Snaps.cons (.aggR (by repeat first | exact .nil | refine SnapCs.cons (.ro _) ?_ | refine SnapCs.cons (.ref rfl (by first | assumption)) ?_)) ?_) rfl (by simp only [nput]; rfl) ?_
        refine TQ.vE (Val.assign 1 rfl rfl) ?_
        refine TQ.nil ?_
        show TC _ _ _ _ _ _
        refine TC.block ?_
        refine TC.seq ?_
        refine TC.region ?_
        refine TL.vE (Val.move 1 rfl rfl) ?_
        refine TL.vE (Val.move 1 rfl rfl) ?_
        refine TL.splitG 1 rfl (fun hg1 => ?_) (fun hg1 => ?_)
        · refine TL.gE rfl hg1 (Val.move 1 rfl rfl) ?_
          refine TL.gE rfl hg1 (Val.nilPtr rfl rfl) ?_
          refine TL.guardE rfl rfl hg1 (by exact Val.load rfl rfl rfl (c := .own (.v (.int .i64 n))) (by simp [St.cellAt, St.root, hrow]) rfl) (by simp only [nput, valC]; rfl) ?_
          refine TL.cF ((impl_within_f _ _ _).k) ?_ (yes_some rfl rfl hg1)
          refine TL.vE (Val.pickT rfl rfl hg1 rfl) ?_
          refine TL.vE (Val.assign 1 rfl rfl) ?_
          refine TL.nil ?_
          show TC _ _ _ _ _ _
          refine TC.cond rfl (fun hb => ?_) (fun hb => ?_)
          · have hu : inR n 0 1000000000 = true := by simp_all
            have hi : I64 n := by simp only [inR, Bool.and_eq_true, decide_eq_true_eq] at hu; exact ⟨by omega, by omega⟩
            have hz2 := dec_size hi.1 hi.2
            refine TC.region ?_
            refine TL.vE (Val.move 1 rfl rfl) ?_
            refine TL.vE (Val.move 1 rfl rfl) ?_
            refine TL.vE (Val.nilPtr rfl rfl) ?_
            refine TL.valE rfl (by exact Val.load rfl rfl rfl (c := .own (.v (.int .i64 n))) (by simp [St.cellAt, St.root, hrow]) rfl) (by simp only [nput, valC]; rfl) ?_
            refine TL.cF ((impl_Decimal_f n hi).k) ?_
            refine TL.vE (Val.addS rfl rfl rfl (by first | decide | omega | (simp [lit_size, ByteArray.size_append, strOfNums_size]; omega))) ?_
            refine TL.vE (Val.addS rfl rfl rfl (by first | decide | omega | (simp [lit_size, ByteArray.size_append, strOfNums_size]; omega))) ?_
            refine TL.vE (Val.assign 1 rfl rfl) ?_
            refine TL.nil ?_
            show TC _ _ _ _ _ _
            refine TC.region ?_
            refine TL.vE (Val.addO rfl rfl rfl) ?_
            refine TL.vE (Val.move 1 rfl rfl) ?_
            refine TL.nil ?_
            first | refine Seq.normal ⟨_, ?_, k + 1, s ++ (⟨#[32]⟩ ++ dec n), ?_, rfl, ?_⟩ | refine Seq.normal (Q := fun _ _ => True) ⟨_, ?_, k + 1, s ++ (⟨#[32]⟩ ++ dec n), ?_, rfl, ?_⟩
            · omega
            · exact ⟨by omega, by rw [hyp.2.1, hst, if_pos (by simpa [usesL] using hg1), if_pos hu, ByteArray.append_assoc], by simp only [ByteArray.size_append, lit_size, List.size_toArray, List.length_cons, List.length_nil]; omega⟩
            · exact Can.to (by repeat first | exact LessT.nil | refine LessT.drop ?_ | refine LessT.keep ?_ | refine LessT.eq (by first | (simp; done) | rfl) ?_) (.cons rfl rfl .nil)
          · refine TC.seq ?_
            refine TC.region ?_
            refine TL.vE (Val.move 1 rfl rfl) ?_
            refine TL.vE (Val.move 1 rfl rfl) ?_
            refine TL.splitG 1 rfl (fun hg1 => ?_) (fun hg1 => ?_)
            · iterate 4 (refine TL.skip (nope_b rfl rfl hg1) (by simp only [nput]; rfl) ?_)
              refine TL.vE (Val.pickT rfl rfl hg1 rfl) ?_
              refine TL.vE (Val.assign 1 rfl rfl) ?_
              refine TL.nil ?_
              show TC _ _ _ _ _ _
              refine TC.cond rfl (fun hb => ?_) (fun hb => absurd hb (by simp))
              refine TC.seq ?_
              refine TC.region ?_
              refine TL.vE (Val.assign 1 rfl rfl) ?_
              refine TL.nil ?_
              show TC _ _ _ _ _ _
              refine TC.ret ?_
              exact ⟨.inr rfl, [_], [_], _, rfl, by decide, rfl, by simp [refV, refC, valC], rfl, resV (by first | (exfalso; simp_all; done) | (rw [hyp.2.1, hst]; simp_all [usesL]))⟩
            · refine TL.gE rfl hg1 (Val.move 1 rfl rfl) ?_
              refine TL.gE rfl hg1 (Val.nilPtr rfl rfl) ?_
              refine TL.guardE rfl rfl hg1 (by exact Val.load rfl rfl rfl (c := .own (.v (.int .i64 n))) (by simp [St.cellAt, St.root, hrow]) rfl) (by simp only [nput, valC]; rfl) ?_
              refine TL.gE rfl hg1 (Val.neq rfl rfl rfl) ?_
              refine TL.vE (Val.pickF rfl rfl hg1 rfl) ?_
              refine TL.vE (Val.assign 1 rfl rfl) ?_
              refine TL.nil ?_
              show TC _ _ _ _ _ _
              refine TC.cond rfl (fun hb => ?_) (fun hb => ?_)
              · refine TC.seq ?_
                refine TC.region ?_
                refine TL.vE (Val.assign 1 rfl rfl) ?_
                refine TL.nil ?_
                show TC _ _ _ _ _ _
                refine TC.ret ?_
                exact ⟨.inr rfl, [_], [_], _, rfl, by decide, rfl, by simp [refV, refC, valC], rfl, resV (by first | (exfalso; simp_all; done) | (rw [hyp.2.1, hst]; simp_all [usesL]))⟩
              · refine TC.skip ?_
                show TC _ _ _ _ _ _
                refine TC.region ?_
                refine TL.vE (Val.addO rfl rfl rfl) ?_
                refine TL.vE (Val.move 1 rfl rfl) ?_
                refine TL.nil ?_
                first | refine Seq.normal ⟨_, ?_, k + 1, s, ?_, rfl, ?_⟩ | refine Seq.normal (Q := fun _ _ => True) ⟨_, ?_, k + 1, s, ?_, rfl, ?_⟩
                · omega
                · exact ⟨by omega, by (first | (exfalso; simp_all; done) | (rw [hyp.2.1, hst]; simp_all [usesL])), by omega⟩
                · exact Can.to (by repeat first | exact LessT.nil | refine LessT.drop ?_ | refine LessT.keep ?_ | refine LessT.eq (by first | (simp; done) | rfl) ?_) (.cons rfl rfl .nil)
        · iterate 4 (refine TL.skip (nope_b rfl rfl hg1) (by simp only [nput]; rfl) ?_)
          refine TL.vE (Val.pickF rfl rfl hg1 rfl) ?_
          refine TL.vE (Val.assign 1 rfl rfl) ?_
          refine TL.nil ?_
          show TC _ _ _ _ _ _
          refine TC.cond rfl (fun hb => absurd hb (by simp)) (fun hb => ?_)
          refine TC.seq ?_
          refine TC.region ?_
          refine TL.vE (Val.move 1 rfl rfl) ?_
          refine TL.vE (Val.move 1 rfl rfl) ?_
          refine TL.splitG 1 rfl (fun hg1 => ?_) (fun hg1 => ?_)
          · iterate 4 (refine TL.skip (nope_b rfl rfl hg1) (by simp only [nput]; rfl) ?_)
            refine TL.vE (Val.pickT rfl rfl hg1 rfl) ?_
            refine TL.vE (Val.assign 1 rfl rfl) ?_
            refine TL.nil ?_
            show TC _ _ _ _ _ _
            refine TC.cond rfl (fun hb => ?_) (fun hb => absurd hb (by simp))
            refine TC.seq ?_
            refine TC.region ?_
            refine TL.vE (Val.assign 1 rfl rfl) ?_
            refine TL.nil ?_
            show TC _ _ _ _ _ _
            refine TC.ret ?_
            exact ⟨.inr rfl, [_], [_], _, rfl, by decide, rfl, by simp [refV, refC, valC], rfl, resV (by first | (exfalso; simp_all; done) | (rw [hyp.2.1, hst]; simp_all [usesL]))⟩
          · refine TL.gE rfl hg1 (Val.move 1 rfl rfl) ?_
            refine TL.gE rfl hg1 (Val.nilPtr rfl rfl) ?_
            refine TL.guardE rfl rfl hg1 (by exact Val.load rfl rfl rfl (c := .own (.v (.int .i64 n))) (by simp [St.cellAt, St.root, hrow]) rfl) (by simp only [nput, valC]; rfl) ?_
            refine TL.gE rfl hg1 (Val.neq rfl rfl rfl) ?_
            refine TL.vE (Val.pickF rfl rfl hg1 rfl) ?_
            refine TL.vE (Val.assign 1 rfl rfl) ?_
            refine TL.nil ?_
            show TC _ _ _ _ _ _
            refine TC.cond rfl (fun hb => ?_) (fun hb => ?_)
            · refine TC.seq ?_
              refine TC.region ?_
              refine TL.vE (Val.assign 1 rfl rfl) ?_
              refine TL.nil ?_
              show TC _ _ _ _ _ _
              refine TC.ret ?_
              exact ⟨.inr rfl, [_], [_], _, rfl, by decide, rfl, by simp [refV, refC, valC], rfl, resV (by first | (exfalso; simp_all; done) | (rw [hyp.2.1, hst]; simp_all [usesL]))⟩
            · refine TC.skip ?_
              show TC _ _ _ _ _ _
              refine TC.region ?_
              refine TL.vE (Val.addO rfl rfl rfl) ?_
              refine TL.vE (Val.move 1 rfl rfl) ?_
              refine TL.nil ?_
              first | refine Seq.normal ⟨_, ?_, k + 1, s, ?_, rfl, ?_⟩ | refine Seq.normal (Q := fun _ _ => True) ⟨_, ?_, k + 1, s, ?_, rfl, ?_⟩
              · omega
              · exact ⟨by omega, by (first | (exfalso; simp_all; done) | (rw [hyp.2.1, hst]; simp_all [usesL])), by omega⟩
              · exact Can.to (by repeat first | exact LessT.nil | refine LessT.drop ?_ | refine LessT.keep ?_ | refine LessT.eq (by first | (simp; done) | rfl) ?_) (.cons rfl rfl .nil)
      · refine TC.exit ?_
        show TC _ _ _ _ _ _
        refine TC.seq ?_
        refine TC.region ?_
        refine TL.vE (Val.move 1 rfl rfl) ?_
        refine TL.vE (Val.assign 1 rfl rfl) ?_
        refine TL.nil ?_
        show TC _ _ _ _ _ _
        refine TC.ret ?_
        exact ⟨.inr rfl, [_], [_], _, rfl, by decide, rfl, by simp [refV, refC, valC], rfl, resV (by have hk5 : k = 5 := (by simp at hb; omega); subst hk5; rw [hyp.2.1]; rfl)⟩
end Go.Proofs.YtfbjcdhphhfpfaaGreatDoor.T

