
import Derived.Test.YteelmdpahpggkaaGreatMbp
namespace Go.Proofs.YteelmdpahpggkaaGreat.T
open Go
set_option linter.unusedVariables false
set_option linter.unusedSimpArgs false
set_option maxRecDepth 100000
set_option maxHeartbeats 1000000
instance : Q ((0 : Int) ≤ 8 ∧ (8 : Int) ≤ 1000) := ⟨by omega⟩
instance : Q ((0 : Int) ≤ 12 ∧ (12 : Int) ≤ 1000) := ⟨by omega⟩
theorem at_in {α : Type} {xs : List α} {i : Int} {y : α} (h : 0 ≤ i) (hy : xs[i.toNat]? = some y) : at? xs i = some y := by unfold at?; rw [if_pos h, hy]
theorem at_out {α : Type} {xs : List α} {i : Int} (h : ¬ (0 ≤ i ∧ i < xs.length)) : at? xs i = none := by
 unfold at?
 split
 ·exact List.getElem?_eq_none (by omega)
 ·rfl
theorem put_in {α : Type} {xs : List α} {i : Int} {y : α} (h : 0 ≤ i) : put xs i y = xs.set i.toNat y := by unfold put; rw [if_pos h]
theorem put_out {α : Type} {xs : List α} {i : Int} {y : α} (h : ¬ (0 ≤ i ∧ i < xs.length)) : put xs i y = xs := by
 unfold put
 split
 ·exact List.set_eq_of_length_le (by omega)
 ·rfl
theorem put_len {α : Type} {xs : List α} {i : Int} {y : α} : (put xs i y).length = xs.length := by unfold put; split <;> simp
theorem spec_l01In_f (n : Int) (a : Int) (b : Int) : Fun Tryz.prog 180 [I n, I a, I b] (RV (.bool (inR n a b))) := by
 refine Fun.w 15 Tryz.func180 fun w g0 _ => ?_
 refine cnd (fun hg3 => ?_) (fun hg3 => ?_)
 ·exact resV (by first | (rfl; done) | (simp_all; done) | (simp_all; omega) | (refine congrArg Value.bool ?_; rw [Bool.eq_iff_iff]; simp; omega))
 ·exact resV (by first | (rfl; done) | (simp_all; done) | (simp_all; omega) | (refine congrArg Value.bool ?_; rw [Bool.eq_iff_iff]; simp; omega))
theorem impl_within_f (n : Int) (a : Int) (b : Int) : Fun Tryz.prog 185 [I n, I a, I b] (RV (.bool (inR n a b))) := by
 refine Fun.w 15 Tryz.func185 fun w g0 _ => ?_
 refine cnd (fun hg3 => ?_) (fun hg3 => ?_)
 ·exact resV (by first | (rfl; done) | (simp_all; done) | (simp_all; omega) | (refine congrArg Value.bool ?_; rw [Bool.eq_iff_iff]; simp; omega))
 ·exact resV (by first | (rfl; done) | (simp_all; done) | (simp_all; omega) | (refine congrArg Value.bool ?_; rw [Bool.eq_iff_iff]; simp; omega))
theorem impl_has_f (k : Int) (n : Int) : Fun Tryz.prog 141 [I k, I n] (RV (.bool (decide (0 ≤ k ∧ k < n)))) := by
 refine Fun.w 12 Tryz.func141 fun w g0 _ => ?_
 refine cnd (fun hg2 => ?_) (fun hg2 => ?_)
 ·exact resV (by first | (rfl; done) | (simp_all; done) | (simp_all; omega) | (refine congrArg Value.bool ?_; rw [Bool.eq_iff_iff]; simp; omega))
 ·exact resV (by first | (rfl; done) | (simp_all; done) | (simp_all; omega) | (refine congrArg Value.bool ?_; rw [Bool.eq_iff_iff]; simp; omega))
theorem spec_Brought_f (n : Int) (a : Int) (b : Int) : Fun Tryz.prog 170 [I n, I a, I b] (RV (.int .i64 (brought n a b))) := by
 refine Fun.w 21 Tryz.func170 fun w g0 _ => ?_
 refine cnd (fun hg3 => ?_) (fun hg3 => ?_)
 ·exact resV (by first | (simp_all [brought]; done) | (simp_all [brought]; omega) | (simp_all [brought] <;> (try intros) <;> omega) | (refine congrArg Value.bool ?_; rw [Bool.eq_iff_iff]; simp [brought]; omega) | (simp_all [brought] <;> rfl))
 ·refine cnd (fun hb => ?_) (fun hb => ?_)
  ·exact resV (by first | (simp_all [brought]; done) | (simp_all [brought]; omega) | (simp_all [brought] <;> (try intros) <;> omega) | (refine congrArg Value.bool ?_; rw [Bool.eq_iff_iff]; simp [brought]; omega) | (simp_all [brought] <;> rfl))
  ·refine cnd (fun hb2 => ?_) (fun hb2 => ?_)
   ·exact resV (by first | (simp_all [brought]; done) | (simp_all [brought]; omega) | (simp_all [brought] <;> (try intros) <;> omega) | (refine congrArg Value.bool ?_; rw [Bool.eq_iff_iff]; simp [brought]; omega) | (simp_all [brought] <;> rfl))
   ·exact resV (by first | (simp_all [brought]; done) | (simp_all [brought]; omega) | (simp_all [brought] <;> (try intros) <;> omega) | (refine congrArg Value.bool ?_; rw [Bool.eq_iff_iff]; simp [brought]; omega) | (simp_all [brought] <;> rfl))
theorem impl_Brought_f (n : Int) (a : Int) (b : Int) : Fun Tryz.prog 174 [I n, I a, I b] (RV (.int .i64 (brought n a b))) := by
 refine Fun.w 19 Tryz.func174 fun w g0 _ => ?_
 refine cnd (fun hg3 => ?_) (fun hg3 => ?_)
 ·exact resV (by first | (simp_all [brought]; done) | (simp_all [brought]; omega) | (simp_all [brought] <;> (try intros) <;> omega) | (refine congrArg Value.bool ?_; rw [Bool.eq_iff_iff]; simp [brought]; omega) | (simp_all [brought] <;> rfl))
 ·refine cnd (fun hb => ?_) (fun hb => ?_)
  ·exact resV (by first | (simp_all [brought]; done) | (simp_all [brought]; omega) | (simp_all [brought] <;> (try intros) <;> omega) | (refine congrArg Value.bool ?_; rw [Bool.eq_iff_iff]; simp [brought]; omega) | (simp_all [brought] <;> rfl))
  ·exact resV (by first | (simp_all [brought]; done) | (simp_all [brought]; omega) | (simp_all [brought] <;> (try intros) <;> omega) | (refine congrArg Value.bool ?_; rw [Bool.eq_iff_iff]; simp [brought]; omega) | (simp_all [brought] <;> rfl))
theorem spec_RightsOk_f (r : Int) : Fun Tryz.prog 294 [I r] (RV (.bool (inR r 0 3))) := by
 refine Fun.w 5 Tryz.func294 fun w g0 _ => ?_
 refine callP (spec_l01In_f _ _ _).k ?_
 exact rfl
theorem impl_RightsOk_f (r : Int) : Fun Tryz.prog 301 [I r] (RV (.bool (inR r 0 3))) := by
 refine Fun.w 5 Tryz.func301 fun w g0 _ => ?_
 refine callP (impl_within_f _ _ _).k ?_
 exact rfl
theorem spec_Enough_f (r : Int) (n : Int) : Fun Tryz.prog 196 [I r, I n] (RV (.bool (enough r n))) := by
 refine Fun.w 18 Tryz.func196 fun w g0 _ => ?_
 refine callP (spec_RightsOk_f _).k ?_
 refine cnd (fun hg2 => ?_) (fun hg2 => ?_)
 ·refine callP (spec_RightsOk_f _).k ?_
  refine cnd (fun hg6 => ?_) (fun hg6 => ?_)
  ·exact resV (by first | (simp_all [enough]; done) | (simp_all [enough]; omega) | (simp_all [enough] <;> (try intros) <;> omega) | (refine congrArg Value.bool ?_; rw [Bool.eq_iff_iff]; simp [enough]; omega) | (simp_all [enough] <;> rfl))
  ·exact resV (by first | (simp_all [enough]; done) | (simp_all [enough]; omega) | (simp_all [enough] <;> (try intros) <;> omega) | (refine congrArg Value.bool ?_; rw [Bool.eq_iff_iff]; simp [enough]; omega) | (simp_all [enough] <;> rfl))
 ·exact resV (by first | (simp_all [enough]; done) | (simp_all [enough]; omega) | (simp_all [enough] <;> (try intros) <;> omega) | (refine congrArg Value.bool ?_; rw [Bool.eq_iff_iff]; simp [enough]; omega) | (simp_all [enough] <;> rfl))
theorem impl_Enough_f (r : Int) (n : Int) : Fun Tryz.prog 211 [I r, I n] (RV (.bool (enough r n))) := by
 refine Fun.w 18 Tryz.func211 fun w g0 _ => ?_
 refine callP (impl_RightsOk_f _).k ?_
 refine cnd (fun hg2 => ?_) (fun hg2 => ?_)
 ·refine callP (impl_RightsOk_f _).k ?_
  refine cnd (fun hg6 => ?_) (fun hg6 => ?_)
  ·exact resV (by first | (simp_all [enough]; done) | (simp_all [enough]; omega) | (simp_all [enough] <;> (try intros) <;> omega) | (refine congrArg Value.bool ?_; rw [Bool.eq_iff_iff]; simp [enough]; omega) | (simp_all [enough] <;> rfl))
  ·exact resV (by first | (simp_all [enough]; done) | (simp_all [enough]; omega) | (simp_all [enough] <;> (try intros) <;> omega) | (refine congrArg Value.bool ?_; rw [Bool.eq_iff_iff]; simp [enough]; omega) | (simp_all [enough] <;> rfl))
 ·exact resV (by first | (simp_all [enough]; done) | (simp_all [enough]; omega) | (simp_all [enough] <;> (try intros) <;> omega) | (refine congrArg Value.bool ?_; rw [Bool.eq_iff_iff]; simp [enough]; omega) | (simp_all [enough] <;> rfl))
theorem spec_NeedOf_f (w : Bool) : Fun Tryz.prog 317 [B w] (RV (.int .i64 (needOf w))) := by
 refine Fun.w 4 Tryz.func317 fun w g0 _ => ?_
 refine cnd (fun hb => ?_) (fun hb => ?_)
 ·exact resV (by first | (simp_all [needOf]; done) | (simp_all [needOf]; omega) | (simp_all [needOf] <;> (try intros) <;> omega) | (refine congrArg Value.bool ?_; rw [Bool.eq_iff_iff]; simp [needOf]; omega) | (simp_all [needOf] <;> rfl))
 ·exact resV (by first | (simp_all [needOf]; done) | (simp_all [needOf]; omega) | (simp_all [needOf] <;> (try intros) <;> omega) | (refine congrArg Value.bool ?_; rw [Bool.eq_iff_iff]; simp [needOf]; omega) | (simp_all [needOf] <;> rfl))
theorem impl_NeedOf_f (w : Bool) : Fun Tryz.prog 367 [B w] (RV (.int .i64 (needOf w))) := by
 refine Fun.w 4 Tryz.func367 fun w g0 _ => ?_
 refine cnd (fun hb => ?_) (fun hb => ?_)
 ·exact resV (by first | (simp_all [needOf]; done) | (simp_all [needOf]; omega) | (simp_all [needOf] <;> (try intros) <;> omega) | (refine congrArg Value.bool ?_; rw [Bool.eq_iff_iff]; simp [needOf]; omega) | (simp_all [needOf] <;> rfl))
 ·exact resV (by first | (simp_all [needOf]; done) | (simp_all [needOf]; omega) | (simp_all [needOf] <;> (try intros) <;> omega) | (refine congrArg Value.bool ?_; rw [Bool.eq_iff_iff]; simp [needOf]; omega) | (simp_all [needOf] <;> rfl))
theorem spec_NoSlot_f  : Fun Tryz.prog 183 [] (RP (A (rSlot noSlot))) := by
 refine Fun.w 2 Tryz.func183 fun w g0 _ => ?_
 exact rfl
theorem impl_NoSlot_f  : Fun Tryz.prog 209 [] (RP (A (rSlot noSlot))) := by
 refine Fun.w 2 Tryz.func209 fun w g0 _ => ?_
 exact rfl
theorem spec_SlotOk_f (x : VSlot) (pages : Int) [hp0 : Q (0 ≤ pages ∧ pages ≤ 1000)] : Fun Tryz.prog 290 [A (rSlot x), I pages] (RV (.bool (slotOk x pages))) := by
 refine Fun.w 24 Tryz.func290 fun w g0 _ => ?_
 have hp := hp0.h
 refine regQ ?_
 refine callQ (spec_NoSlot_f).k ?_
 refine eqa ?_
 refine cnd (fun hg3 => ?_) (fun hg3 => ?_)
 ·exact resV (by first | (cases x; (simp_all [slotOk]; done)) | (cases x; (simp_all [slotOk]; omega)) | (cases x; (simp_all [slotOk] <;> (try intros) <;> omega)) | (cases x; (refine congrArg Value.bool ?_; rw [Bool.eq_iff_iff]; simp [slotOk]; omega)) | (cases x; (simp_all [slotOk] <;> rfl)))
 ·refine rng ?_
  refine callQ (spec_l01In_f _ _ _).k ?_
  refine cnd (fun hg9 => ?_) (fun hg9 => ?_)
  ·refine cnd (fun hg13 => ?_) (fun hg13 => ?_)
   ·refine callQ (spec_l01In_f _ _ _).k ?_
    exact resV (by first | (cases x; (simp_all [slotOk]; done)) | (cases x; (simp_all [slotOk]; omega)) | (cases x; (simp_all [slotOk] <;> (try intros) <;> omega)) | (cases x; (refine congrArg Value.bool ?_; rw [Bool.eq_iff_iff]; simp [slotOk]; omega)) | (cases x; (simp_all [slotOk] <;> rfl)))
   ·exact resV (by first | (cases x; (simp_all [slotOk]; done)) | (cases x; (simp_all [slotOk]; omega)) | (cases x; (simp_all [slotOk] <;> (try intros) <;> omega)) | (cases x; (refine congrArg Value.bool ?_; rw [Bool.eq_iff_iff]; simp [slotOk]; omega)) | (cases x; (simp_all [slotOk] <;> rfl)))
  ·exact resV (by first | (cases x; (simp_all [slotOk]; done)) | (cases x; (simp_all [slotOk]; omega)) | (cases x; (simp_all [slotOk] <;> (try intros) <;> omega)) | (cases x; (refine congrArg Value.bool ?_; rw [Bool.eq_iff_iff]; simp [slotOk]; omega)) | (cases x; (simp_all [slotOk] <;> rfl)))
theorem impl_SlotOk_f (x : VSlot) (pages : Int) [hp0 : Q (0 ≤ pages ∧ pages ≤ 1000)] : Fun Tryz.prog 297 [A (rSlot x), I pages] (RV (.bool (slotOk x pages))) := by
 refine Fun.w 24 Tryz.func297 fun w g0 _ => ?_
 have hp := hp0.h
 refine regQ ?_
 refine callQ (impl_NoSlot_f).k ?_
 refine eqa ?_
 refine cnd (fun hg3 => ?_) (fun hg3 => ?_)
 ·exact resV (by first | (cases x; (simp_all [slotOk]; done)) | (cases x; (simp_all [slotOk]; omega)) | (cases x; (simp_all [slotOk] <;> (try intros) <;> omega)) | (cases x; (refine congrArg Value.bool ?_; rw [Bool.eq_iff_iff]; simp [slotOk]; omega)) | (cases x; (simp_all [slotOk] <;> rfl)))
 ·refine cnd (fun hg6 => ?_) (fun hg6 => ?_)
  ·refine rng ?_
   refine callQ (impl_within_f _ _ _).k ?_
   refine cnd (fun hg13 => ?_) (fun hg13 => ?_)
   ·refine callQ (impl_within_f _ _ _).k ?_
    exact resV (by first | (cases x; (simp_all [slotOk]; done)) | (cases x; (simp_all [slotOk]; omega)) | (cases x; (simp_all [slotOk] <;> (try intros) <;> omega)) | (cases x; (refine congrArg Value.bool ?_; rw [Bool.eq_iff_iff]; simp [slotOk]; omega)) | (cases x; (simp_all [slotOk] <;> rfl)))
   ·exact resV (by first | (cases x; (simp_all [slotOk]; done)) | (cases x; (simp_all [slotOk]; omega)) | (cases x; (simp_all [slotOk] <;> (try intros) <;> omega)) | (cases x; (refine congrArg Value.bool ?_; rw [Bool.eq_iff_iff]; simp [slotOk]; omega)) | (cases x; (simp_all [slotOk] <;> rfl)))
  ·exact resV (by first | (cases x; (simp_all [slotOk]; done)) | (cases x; (simp_all [slotOk]; omega)) | (cases x; (simp_all [slotOk] <;> (try intros) <;> omega)) | (cases x; (refine congrArg Value.bool ?_; rw [Bool.eq_iff_iff]; simp [slotOk]; omega)) | (cases x; (simp_all [slotOk] <;> rfl)))
theorem spec_SlotAt_f (t : List VSlot) (n : Int) : Fun Tryz.prog 218 [L 2 (t.map dSlot), I n] (RP (A (rSlot (slotAt t n)))) := by
 refine Fun.w 16 Tryz.func218 fun w g0 hM => ?_
 have hl0 := hM.1.map
 refine len ?_
 refine rng ?_
 refine callP (spec_l01In_f _ _ _).k ?_
 refine cnd (fun hb => ?_) (fun hb => ?_)
 ·refine callP (spec_NoSlot_f).k ?_
  exact (by first | (rw [slotAt, at_out (by omega)]; rfl) | (rw [slotAt, at_in (by omega) (by assumption)]; rfl))
 ·first | refine ixm (by assumption) ?_ | refine bnd ?_ | refine bndi ?_ | refine ixkq (fun y14 hy14 qy14 ly14 => ?_) | refine ixiq (fun y14 hy14 qy14 ly14 => ?_)
  first | refine ixs ?_ | refine ixo (by assumption) ?_ | refine ixoq (fun z1 hz1 qz1 lz1 => ?_) | skip
  exact (by first | (rw [slotAt, at_out (by omega)]; rfl) | (rw [slotAt, at_in (by omega) (by assumption)]; rfl))
theorem impl_SlotAt_f (t : List VSlot) (n : Int) : Fun Tryz.prog 221 [L 2 (t.map dSlot), I n] (RP (A (rSlot (slotAt t n)))) := by
 refine Fun.w 15 Tryz.func221 fun w g0 hM => ?_
 have hl0 := hM.1.map
 refine len ?_
 refine callP (impl_has_f _ _).k ?_
 refine cnd (fun hb => ?_) (fun hb => ?_)
 ·refine callP (impl_NoSlot_f).k ?_
  exact (by first | (rw [slotAt, at_out (by omega)]; rfl) | (rw [slotAt, at_in (by omega) (by assumption)]; rfl))
 ·first | refine ixm (by assumption) ?_ | refine bnd ?_ | refine bndi ?_ | refine ixkq (fun y13 hy13 qy13 ly13 => ?_) | refine ixiq (fun y13 hy13 qy13 ly13 => ?_)
  first | refine ixs ?_ | refine ixo (by assumption) ?_ | refine ixoq (fun z1 hz1 qz1 lz1 => ?_) | skip
  exact (by first | (rw [slotAt, at_out (by omega)]; rfl) | (rw [slotAt, at_in (by omega) (by assumption)]; rfl))
end Go.Proofs.YteelmdpahpggkaaGreat.T

