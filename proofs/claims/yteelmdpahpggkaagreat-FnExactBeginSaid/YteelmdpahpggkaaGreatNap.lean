/- Words, rights and tables, both sides. PRINTED by gen3.py. No condition. -/
import Derived.Test.YteelmdpahpggkaaGreatMbp
namespace Go.Proofs.YteelmdpahpggkaaGreat.T
open Go
set_option linter.unusedVariables false
set_option linter.unusedSimpArgs false
set_option maxRecDepth 100000
set_option maxHeartbeats 1000000

instance : Q ((0 : Int) ≤ 8 ∧ (8 : Int) ≤ 1000) := ⟨by omega⟩
instance : Q ((0 : Int) ≤ 12 ∧ (12 : Int) ≤ 1000) := ⟨by omega⟩
theorem spec_l01In_f (n : Int) (a : Int) (b : Int) : Fun Tryz.prog 180 [I n, I a, I b] (RV (.bool (inR n a b))) := by
  refine Fun.w 15 Tryz.func180 fun w g0 _ => ?_
  refine cnd (fun hg3 => ?_) (fun hg3 => ?_)
  · exact resV (by first | (rfl; done) | (simp_all; done) | (simp_all; omega) | (refine congrArg Value.bool ?_; rw [Bool.eq_iff_iff]; simp; omega))
  · exact resV (by first | (rfl; done) | (simp_all; done) | (simp_all; omega) | (refine congrArg Value.bool ?_; rw [Bool.eq_iff_iff]; simp; omega))

theorem impl_within_f (n : Int) (a : Int) (b : Int) : Fun Tryz.prog 185 [I n, I a, I b] (RV (.bool (inR n a b))) := by
  refine Fun.w 15 Tryz.func185 fun w g0 _ => ?_
  refine cnd (fun hg3 => ?_) (fun hg3 => ?_)
  · exact resV (by first | (rfl; done) | (simp_all; done) | (simp_all; omega) | (refine congrArg Value.bool ?_; rw [Bool.eq_iff_iff]; simp; omega))
  · exact resV (by first | (rfl; done) | (simp_all; done) | (simp_all; omega) | (refine congrArg Value.bool ?_; rw [Bool.eq_iff_iff]; simp; omega))

theorem spec_Brought_f (n : Int) (a : Int) (b : Int) : Fun Tryz.prog 170 [I n, I a, I b] (RV (.int .i64 (brought n a b))) := by
  refine Fun.w 21 Tryz.func170 fun w g0 _ => ?_
  refine cnd (fun hg3 => ?_) (fun hg3 => ?_)
  · exact resV (by first | (simp_all [brought]; done) | (simp_all [brought]; omega) | (simp_all [brought] <;> (try intros) <;> omega) | (refine congrArg Value.bool ?_; rw [Bool.eq_iff_iff]; simp [brought]; omega) | (simp_all [brought] <;> rfl))
  · refine cnd (fun hb => ?_) (fun hb => ?_)
    · exact resV (by first | (simp_all [brought]; done) | (simp_all [brought]; omega) | (simp_all [brought] <;> (try intros) <;> omega) | (refine congrArg Value.bool ?_; rw [Bool.eq_iff_iff]; simp [brought]; omega) | (simp_all [brought] <;> rfl))
    · refine cnd (fun hb2 => ?_) (fun hb2 => ?_)
      · exact resV (by first | (simp_all [brought]; done) | (simp_all [brought]; omega) | (simp_all [brought] <;> (try intros) <;> omega) | (refine congrArg Value.bool ?_; rw [Bool.eq_iff_iff]; simp [brought]; omega) | (simp_all [brought] <;> rfl))
      · exact resV (by first | (simp_all [brought]; done) | (simp_all [brought]; omega) | (simp_all [brought] <;> (try intros) <;> omega) | (refine congrArg Value.bool ?_; rw [Bool.eq_iff_iff]; simp [brought]; omega) | (simp_all [brought] <;> rfl))

theorem impl_Brought_f (n : Int) (a : Int) (b : Int) : Fun Tryz.prog 174 [I n, I a, I b] (RV (.int .i64 (brought n a b))) := by
  refine Fun.w 19 Tryz.func174 fun w g0 _ => ?_
  refine cnd (fun hg3 => ?_) (fun hg3 => ?_)
  · exact resV (by first | (simp_all [brought]; done) | (simp_all [brought]; omega) | (simp_all [brought] <;> (try intros) <;> omega) | (refine congrArg Value.bool ?_; rw [Bool.eq_iff_iff]; simp [brought]; omega) | (simp_all [brought] <;> rfl))
  · refine cnd (fun hb => ?_) (fun hb => ?_)
    · exact resV (by first | (simp_all [brought]; done) | (simp_all [brought]; omega) | (simp_all [brought] <;> (try intros) <;> omega) | (refine congrArg Value.bool ?_; rw [Bool.eq_iff_iff]; simp [brought]; omega) | (simp_all [brought] <;> rfl))
    · exact resV (by first | (simp_all [brought]; done) | (simp_all [brought]; omega) | (simp_all [brought] <;> (try intros) <;> omega) | (refine congrArg Value.bool ?_; rw [Bool.eq_iff_iff]; simp [brought]; omega) | (simp_all [brought] <;> rfl))

theorem spec_NoSlot_f  : Fun Tryz.prog 183 [] (RP (A (rSlot noSlot))) := by
  refine Fun.w 2 Tryz.func183 fun w g0 _ => ?_
  exact rfl

theorem impl_NoSlot_f  : Fun Tryz.prog 209 [] (RP (A (rSlot noSlot))) := by
  refine Fun.w 2 Tryz.func209 fun w g0 _ => ?_
  exact rfl

theorem spec_SlotOk_f (x : VSlot) (pages : Int) [hp0 : Q (0 ≤ pages ∧ pages ≤ 1000)] : Fun Tryz.prog 290 [A (rSlot x), I pages] (RV (.bool (slotOk x pages))) := by
  refine Fun.w 24 Tryz.func290 fun w g0 _ => ?_
  have hp := hp0.h
  refine regQ ?_
  refine callQ (spec_NoSlot_f).k ?_
  refine eqa ?_
  refine cnd (fun hg3 => ?_) (fun hg3 => ?_)
  · exact resV (by first | (cases x; (simp_all [slotOk]; done)) | (cases x; (simp_all [slotOk]; omega)) | (cases x; (simp_all [slotOk] <;> (try intros) <;> omega)) | (cases x; (refine congrArg Value.bool ?_; rw [Bool.eq_iff_iff]; simp [slotOk]; omega)) | (cases x; (simp_all [slotOk] <;> rfl)))
  · refine rng ?_
    refine callQ (spec_l01In_f _ _ _).k ?_
    refine cnd (fun hg9 => ?_) (fun hg9 => ?_)
    · refine cnd (fun hg13 => ?_) (fun hg13 => ?_)
      · refine callQ (spec_l01In_f _ _ _).k ?_
        exact resV (by first | (cases x; (simp_all [slotOk]; done)) | (cases x; (simp_all [slotOk]; omega)) | (cases x; (simp_all [slotOk] <;> (try intros) <;> omega)) | (cases x; (refine congrArg Value.bool ?_; rw [Bool.eq_iff_iff]; simp [slotOk]; omega)) | (cases x; (simp_all [slotOk] <;> rfl)))
      · exact resV (by first | (cases x; (simp_all [slotOk]; done)) | (cases x; (simp_all [slotOk]; omega)) | (cases x; (simp_all [slotOk] <;> (try intros) <;> omega)) | (cases x; (refine congrArg Value.bool ?_; rw [Bool.eq_iff_iff]; simp [slotOk]; omega)) | (cases x; (simp_all [slotOk] <;> rfl)))
    · exact resV (by first | (cases x; (simp_all [slotOk]; done)) | (cases x; (simp_all [slotOk]; omega)) | (cases x; (simp_all [slotOk] <;> (try intros) <;> omega)) | (cases x; (refine congrArg Value.bool ?_; rw [Bool.eq_iff_iff]; simp [slotOk]; omega)) | (cases x; (simp_all [slotOk] <;> rfl)))

theorem impl_SlotOk_f (x : VSlot) (pages : Int) [hp0 : Q (0 ≤ pages ∧ pages ≤ 1000)] : Fun Tryz.prog 297 [A (rSlot x), I pages] (RV (.bool (slotOk x pages))) := by
  refine Fun.w 24 Tryz.func297 fun w g0 _ => ?_
  have hp := hp0.h
  refine regQ ?_
  refine callQ (impl_NoSlot_f).k ?_
  refine eqa ?_
  refine cnd (fun hg3 => ?_) (fun hg3 => ?_)
  · exact resV (by first | (cases x; (simp_all [slotOk]; done)) | (cases x; (simp_all [slotOk]; omega)) | (cases x; (simp_all [slotOk] <;> (try intros) <;> omega)) | (cases x; (refine congrArg Value.bool ?_; rw [Bool.eq_iff_iff]; simp [slotOk]; omega)) | (cases x; (simp_all [slotOk] <;> rfl)))
  · refine cnd (fun hg6 => ?_) (fun hg6 => ?_)
    · refine rng ?_
      refine callQ (impl_within_f _ _ _).k ?_
      refine cnd (fun hg13 => ?_) (fun hg13 => ?_)
      · refine callQ (impl_within_f _ _ _).k ?_
        exact resV (by first | (cases x; (simp_all [slotOk]; done)) | (cases x; (simp_all [slotOk]; omega)) | (cases x; (simp_all [slotOk] <;> (try intros) <;> omega)) | (cases x; (refine congrArg Value.bool ?_; rw [Bool.eq_iff_iff]; simp [slotOk]; omega)) | (cases x; (simp_all [slotOk] <;> rfl)))
      · exact resV (by first | (cases x; (simp_all [slotOk]; done)) | (cases x; (simp_all [slotOk]; omega)) | (cases x; (simp_all [slotOk] <;> (try intros) <;> omega)) | (cases x; (refine congrArg Value.bool ?_; rw [Bool.eq_iff_iff]; simp [slotOk]; omega)) | (cases x; (simp_all [slotOk] <;> rfl)))
    · exact resV (by first | (cases x; (simp_all [slotOk]; done)) | (cases x; (simp_all [slotOk]; omega)) | (cases x; (simp_all [slotOk] <;> (try intros) <;> omega)) | (cases x; (refine congrArg Value.bool ?_; rw [Bool.eq_iff_iff]; simp [slotOk]; omega)) | (cases x; (simp_all [slotOk] <;> rfl)))

end Go.Proofs.YteelmdpahpggkaaGreat.T

