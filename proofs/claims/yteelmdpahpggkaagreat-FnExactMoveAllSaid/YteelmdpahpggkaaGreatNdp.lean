
import Derived.Test.YteelmdpahpggkaaGreatNcp
namespace Go.Proofs.YteelmdpahpggkaaGreat.T
open Go
set_option linter.unusedVariables false
set_option linter.unusedSimpArgs false
set_option maxRecDepth 100000
set_option maxHeartbeats 1000000
theorem mapped_step {t : List VSlot} {i : Nat} {y : VSlot} (hy : t[i]? = some y) : mapped (t.take (i + 1)) = mapped (t.take i) + if y.Page = -1 then 0 else 1 := by
 unfold mapped
 rw [List.take_add_one, hy, List.countP_append]
 by_cases h : y.Page = -1 <;> simp [h]
theorem mapped_le (t : List VSlot) : 0 ≤ mapped t ∧ mapped t ≤ t.length := by
 unfold mapped
 have := List.countP_le_length (p := fun s : VSlot => decide (s.Page ≠ -1)) (l := t)
 omega
theorem spec_Mapped_f (t : List VSlot) : Fun Tryz.prog 104 [L 2 (t.map dSlot)] (RV (.int .i64 (mapped t))) := by
 refine Fun.w 20 Tryz.func104 fun w g0 hM => ?_
 have hl0 := hM.1.map
 refine loopA [0, 2, 19] [] [] (fun (i : Nat) => [.set 3 (I (mapped (t.take i))), .set 4 (I i)]) (fun (i : Nat) => []) (fun (i : Nat) => i ≤ t.length) (fun (i : Nat) => t.length - i) (0) (Nat.zero_le _) ?_
 refine ⟨hda, fun i hyp N1 hN1 => ?_⟩
 have hyp : i ≤ t.length := hyp
 have hm := mapped_le (t.take i)
 have htl : (t.take i).length ≤ i := by rw [List.length_take]; omega
 refine len ?_
 refine cnd (fun hb => ?_) (fun hb => ?_)
 ·first | refine ixm (by assumption) ?_ | refine bnd ?_ | refine bndi ?_ | refine ixkq (fun y13 hy13 qy13 ly13 => ?_) | refine ixiq (fun y13 hy13 qy13 ly13 => ?_)
  first | refine ixs ?_ | refine ixo (by assumption) ?_ | refine ixoq (fun z1 hz1 qz1 lz1 => ?_) | skip
  refine cnd (fun hb2 => ?_) (fun hb2 => ?_)
  ·refine rng ?_
   refine rng ?_
   refine hN1 _ _ _ ?_
   refine nxa (i + 1) (by omega) (by repeat' first | exact rfl | refine And.intro ?_ ?_ | exact True.intro | (refine eqS ?_; rw [mapped_step (by assumption)]; simp [*]; done))
  ·refine rng ?_
   refine hN1 _ _ _ ?_
   refine nxa (i + 1) (by omega) (by repeat' first | exact rfl | refine And.intro ?_ ?_ | exact True.intro | (refine eqS ?_; rw [mapped_step (by assumption)]; simp [*]; done))
 ·refine hN1 _ _ _ ?_
  exact (by rw [List.take_of_length_le (by omega)]; rfl)
theorem impl_Mapped_f (t : List VSlot) : Fun Tryz.prog 116 [L 2 (t.map dSlot)] (RV (.int .i64 (mapped t))) := by
 refine Fun.w 19 Tryz.func116 fun w g0 hM => ?_
 have hl0 := hM.1.map
 refine len ?_
 refine loopA [2, 6, 7, 18] [] [] (fun (i : Nat) => [.set 3 (I (mapped (t.take i))), .set 8 (I i)]) (fun (i : Nat) => []) (fun (i : Nat) => i ≤ t.length) (fun (i : Nat) => t.length - i) (0) (Nat.zero_le _) ?_
 refine ⟨hda, fun i hyp N1 hN1 => ?_⟩
 have hyp : i ≤ t.length := hyp
 have hm := mapped_le (t.take i)
 have htl : (t.take i).length ≤ i := by rw [List.length_take]; omega
 refine cnd (fun hb => ?_) (fun hb => ?_)
 ·first | refine ixm (by assumption) ?_ | refine bnd ?_ | refine bndi ?_ | refine ixkq (fun y10 hy10 qy10 ly10 => ?_) | refine ixiq (fun y10 hy10 qy10 ly10 => ?_)
  first | refine ixs ?_ | refine ixo (by assumption) ?_ | refine ixoq (fun z1 hz1 qz1 lz1 => ?_) | skip
  refine cnd (fun hb2 => ?_) (fun hb2 => ?_)
  ·refine rng ?_
   refine rng ?_
   refine hN1 _ _ _ ?_
   refine nxa (i + 1) (by omega) (by repeat' first | exact rfl | refine And.intro ?_ ?_ | exact True.intro | (refine eqS ?_; rw [mapped_step (by assumption)]; simp [*]; done))
  ·refine rng ?_
   refine hN1 _ _ _ ?_
   refine nxa (i + 1) (by omega) (by repeat' first | exact rfl | refine And.intro ?_ ?_ | exact True.intro | (refine eqS ?_; rw [mapped_step (by assumption)]; simp [*]; done))
 ·refine hN1 _ _ _ ?_
  exact (by rw [List.take_of_length_le (by omega)]; rfl)
theorem spec_InsOk_f (x : VIns) : Fun Tryz.prog 395 [A (rIns x)] (RV (.bool (insOk x))) := by
 refine Fun.w 29 Tryz.func395 fun w g0 _ => ?_
 refine cnd (fun hb => ?_) (fun hb => ?_)
 ·refine callP (spec_l01In_f _ _ _).k ?_
  exact resV (by first | (cases x; (simp_all [insOk]; done)) | (cases x; (simp_all [insOk]; omega)) | (cases x; (simp_all [insOk] <;> (try intros) <;> omega)) | (cases x; (refine congrArg Value.bool ?_; rw [Bool.eq_iff_iff]; simp [insOk]; omega)) | (cases x; (simp_all [insOk] <;> rfl)))
 ·refine cnd (fun hb2 => ?_) (fun hb2 => ?_)
  ·refine callP (spec_l01In_f _ _ _).k ?_
   exact resV (by first | (cases x; (simp_all [insOk]; done)) | (cases x; (simp_all [insOk]; omega)) | (cases x; (simp_all [insOk] <;> (try intros) <;> omega)) | (cases x; (refine congrArg Value.bool ?_; rw [Bool.eq_iff_iff]; simp [insOk]; omega)) | (cases x; (simp_all [insOk] <;> rfl)))
  ·refine cnd (fun hb3 => ?_) (fun hb3 => ?_)
   ·refine callP (spec_l01In_f _ _ _).k ?_
    exact resV (by first | (cases x; (simp_all [insOk]; done)) | (cases x; (simp_all [insOk]; omega)) | (cases x; (simp_all [insOk] <;> (try intros) <;> omega)) | (cases x; (refine congrArg Value.bool ?_; rw [Bool.eq_iff_iff]; simp [insOk]; omega)) | (cases x; (simp_all [insOk] <;> rfl)))
   ·refine cnd (fun hb4 => ?_) (fun hb4 => ?_)
    ·refine callP (spec_l01In_f _ _ _).k ?_
     exact resV (by first | (cases x; (simp_all [insOk]; done)) | (cases x; (simp_all [insOk]; omega)) | (cases x; (simp_all [insOk] <;> (try intros) <;> omega)) | (cases x; (refine congrArg Value.bool ?_; rw [Bool.eq_iff_iff]; simp [insOk]; omega)) | (cases x; (simp_all [insOk] <;> rfl)))
    ·refine cnd (fun hb5 => ?_) (fun hb5 => ?_)
     ·refine callP (spec_l01In_f _ _ _).k ?_
      exact resV (by first | (cases x; (simp_all [insOk]; done)) | (cases x; (simp_all [insOk]; omega)) | (cases x; (simp_all [insOk] <;> (try intros) <;> omega)) | (cases x; (refine congrArg Value.bool ?_; rw [Bool.eq_iff_iff]; simp [insOk]; omega)) | (cases x; (simp_all [insOk] <;> rfl)))
     ·refine cnd (fun hb6 => ?_) (fun hb6 => ?_)
      ·refine callP (spec_l01In_f _ _ _).k ?_
       exact resV (by first | (cases x; (simp_all [insOk]; done)) | (cases x; (simp_all [insOk]; omega)) | (cases x; (simp_all [insOk] <;> (try intros) <;> omega)) | (cases x; (refine congrArg Value.bool ?_; rw [Bool.eq_iff_iff]; simp [insOk]; omega)) | (cases x; (simp_all [insOk] <;> rfl)))
      ·refine cnd (fun hb7 => ?_) (fun hb7 => ?_)
       ·exact resV (by first | (cases x; (simp_all [insOk]; done)) | (cases x; (simp_all [insOk]; omega)) | (cases x; (simp_all [insOk] <;> (try intros) <;> omega)) | (cases x; (refine congrArg Value.bool ?_; rw [Bool.eq_iff_iff]; simp [insOk]; omega)) | (cases x; (simp_all [insOk] <;> rfl)))
       ·refine cnd (fun hb8 => ?_) (fun hb8 => ?_)
        ·refine callP (spec_l01In_f _ _ _).k ?_
         exact resV (by first | (cases x; (simp_all [insOk]; done)) | (cases x; (simp_all [insOk]; omega)) | (cases x; (simp_all [insOk] <;> (try intros) <;> omega)) | (cases x; (refine congrArg Value.bool ?_; rw [Bool.eq_iff_iff]; simp [insOk]; omega)) | (cases x; (simp_all [insOk] <;> rfl)))
        ·exact resV (by first | (cases x; (simp_all [insOk]; done)) | (cases x; (simp_all [insOk]; omega)) | (cases x; (simp_all [insOk] <;> (try intros) <;> omega)) | (cases x; (refine congrArg Value.bool ?_; rw [Bool.eq_iff_iff]; simp [insOk]; omega)) | (cases x; (simp_all [insOk] <;> rfl)))
theorem impl_InsOk_f (x : VIns) : Fun Tryz.prog 397 [A (rIns x)] (RV (.bool (insOk x))) := by
 refine Fun.w 29 Tryz.func397 fun w g0 _ => ?_
 refine cnd (fun hb => ?_) (fun hb => ?_)
 ·refine callP (impl_within_f _ _ _).k ?_
  exact resV (by first | (cases x; (simp_all [insOk]; done)) | (cases x; (simp_all [insOk]; omega)) | (cases x; (simp_all [insOk] <;> (try intros) <;> omega)) | (cases x; (refine congrArg Value.bool ?_; rw [Bool.eq_iff_iff]; simp [insOk]; omega)) | (cases x; (simp_all [insOk] <;> rfl)))
 ·refine cnd (fun hb2 => ?_) (fun hb2 => ?_)
  ·refine callP (impl_within_f _ _ _).k ?_
   exact resV (by first | (cases x; (simp_all [insOk]; done)) | (cases x; (simp_all [insOk]; omega)) | (cases x; (simp_all [insOk] <;> (try intros) <;> omega)) | (cases x; (refine congrArg Value.bool ?_; rw [Bool.eq_iff_iff]; simp [insOk]; omega)) | (cases x; (simp_all [insOk] <;> rfl)))
  ·refine cnd (fun hb3 => ?_) (fun hb3 => ?_)
   ·refine callP (impl_within_f _ _ _).k ?_
    exact resV (by first | (cases x; (simp_all [insOk]; done)) | (cases x; (simp_all [insOk]; omega)) | (cases x; (simp_all [insOk] <;> (try intros) <;> omega)) | (cases x; (refine congrArg Value.bool ?_; rw [Bool.eq_iff_iff]; simp [insOk]; omega)) | (cases x; (simp_all [insOk] <;> rfl)))
   ·refine cnd (fun hb4 => ?_) (fun hb4 => ?_)
    ·refine callP (impl_within_f _ _ _).k ?_
     exact resV (by first | (cases x; (simp_all [insOk]; done)) | (cases x; (simp_all [insOk]; omega)) | (cases x; (simp_all [insOk] <;> (try intros) <;> omega)) | (cases x; (refine congrArg Value.bool ?_; rw [Bool.eq_iff_iff]; simp [insOk]; omega)) | (cases x; (simp_all [insOk] <;> rfl)))
    ·refine cnd (fun hb5 => ?_) (fun hb5 => ?_)
     ·refine callP (impl_within_f _ _ _).k ?_
      exact resV (by first | (cases x; (simp_all [insOk]; done)) | (cases x; (simp_all [insOk]; omega)) | (cases x; (simp_all [insOk] <;> (try intros) <;> omega)) | (cases x; (refine congrArg Value.bool ?_; rw [Bool.eq_iff_iff]; simp [insOk]; omega)) | (cases x; (simp_all [insOk] <;> rfl)))
     ·refine cnd (fun hb6 => ?_) (fun hb6 => ?_)
      ·refine callP (impl_within_f _ _ _).k ?_
       exact resV (by first | (cases x; (simp_all [insOk]; done)) | (cases x; (simp_all [insOk]; omega)) | (cases x; (simp_all [insOk] <;> (try intros) <;> omega)) | (cases x; (refine congrArg Value.bool ?_; rw [Bool.eq_iff_iff]; simp [insOk]; omega)) | (cases x; (simp_all [insOk] <;> rfl)))
      ·refine cnd (fun hb7 => ?_) (fun hb7 => ?_)
       ·exact resV (by first | (cases x; (simp_all [insOk]; done)) | (cases x; (simp_all [insOk]; omega)) | (cases x; (simp_all [insOk] <;> (try intros) <;> omega)) | (cases x; (refine congrArg Value.bool ?_; rw [Bool.eq_iff_iff]; simp [insOk]; omega)) | (cases x; (simp_all [insOk] <;> rfl)))
       ·refine cnd (fun hb8 => ?_) (fun hb8 => ?_)
        ·refine callP (impl_within_f _ _ _).k ?_
         exact resV (by first | (cases x; (simp_all [insOk]; done)) | (cases x; (simp_all [insOk]; omega)) | (cases x; (simp_all [insOk] <;> (try intros) <;> omega)) | (cases x; (refine congrArg Value.bool ?_; rw [Bool.eq_iff_iff]; simp [insOk]; omega)) | (cases x; (simp_all [insOk] <;> rfl)))
        ·exact resV (by first | (cases x; (simp_all [insOk]; done)) | (cases x; (simp_all [insOk]; omega)) | (cases x; (simp_all [insOk] <;> (try intros) <;> omega)) | (cases x; (refine congrArg Value.bool ?_; rw [Bool.eq_iff_iff]; simp [insOk]; omega)) | (cases x; (simp_all [insOk] <;> rfl)))
theorem spec_ProgOk_f (p : List VIns) : Fun Tryz.prog 291 [L 2 (p.map dIns)] (RV (.bool (progOk p))) := by
 refine Fun.w 19 Tryz.func291 fun w g0 hM => ?_
 have hl0 := hM.1.map
 refine loopA [0, 16, 17, 18] [] [] (fun (i : Nat) => [.set 3 (I i)]) (fun (i : Nat) => []) (fun (i : Nat) => (i ≤ p.length) ∧ ((p.take i).all insOk = true)) (fun (i : Nat) => p.length - i) (0) (⟨Nat.zero_le _, rfl⟩) ?_
 refine ⟨hda, fun i hyp N1 hN1 => ?_⟩
 have hyp : (i ≤ p.length) ∧ ((p.take i).all insOk = true) := hyp
 have ha := all_dec hyp.2
 refine len ?_
 refine cnd (fun hb => ?_) (fun hb => ?_)
 ·first | refine ixm (by assumption) ?_ | refine bnd ?_ | refine bndi ?_ | refine ixkq (fun y12 hy12 qy12 ly12 => ?_) | refine ixiq (fun y12 hy12 qy12 ly12 => ?_)
  first | refine ixs ?_ | refine ixo (by assumption) ?_ | refine ixoq (fun z1 hz1 qz1 lz1 => ?_) | skip
  refine callP (spec_InsOk_f _).k ?_
  refine cnd (fun hb2 => ?_) (fun hb2 => ?_)
  ·refine hN1 _ _ _ ?_
   exact resV (by first | (unfold progOk; rw [ha.1 _ (by assumption) (by first | assumption | exact decide_eq_false (by omega) | exact decide_eq_true (by omega))]; rfl) | (unfold progOk; rw [ha.2 (by omega)]; first | rfl | (simp; done) | (simp; rfl) | (rw [Value.bool.injEq, Bool.eq_iff_iff]; simp; omega)))
  ·refine rng ?_
   refine hN1 _ _ _ ?_
   refine nxa (i + 1) (⟨by omega, all_next hyp.2 (by assumption) (by first | assumption | exact decide_eq_false (by omega) | exact decide_eq_true (by omega))⟩)
 ·refine hN1 _ _ _ ?_
  refine len ?_
  refine callP (spec_l01In_f _ _ _).k ?_
  exact resV (by first | (unfold progOk; rw [ha.1 _ (by assumption) (by first | assumption | exact decide_eq_false (by omega) | exact decide_eq_true (by omega))]; rfl) | (unfold progOk; rw [ha.2 (by omega)]; first | rfl | (simp; done) | (simp; rfl) | (rw [Value.bool.injEq, Bool.eq_iff_iff]; simp; omega)))
theorem impl_ProgOk_f (p : List VIns) : Fun Tryz.prog 298 [L 2 (p.map dIns)] (RV (.bool (progOk p))) := by
 refine Fun.w 18 Tryz.func298 fun w g0 hM => ?_
 have hl0 := hM.1.map
 refine len ?_
 refine loopA [0, 5, 6, 15, 16, 17] [] [] (fun (i : Nat) => [.set 7 (I i)]) (fun (i : Nat) => []) (fun (i : Nat) => (i ≤ p.length) ∧ ((p.take i).all insOk = true)) (fun (i : Nat) => p.length - i) (0) (⟨Nat.zero_le _, rfl⟩) ?_
 refine ⟨hda, fun i hyp N1 hN1 => ?_⟩
 have hyp : (i ≤ p.length) ∧ ((p.take i).all insOk = true) := hyp
 have ha := all_dec hyp.2
 refine cnd (fun hb => ?_) (fun hb => ?_)
 ·first | refine ixm (by assumption) ?_ | refine bnd ?_ | refine bndi ?_ | refine ixkq (fun y9 hy9 qy9 ly9 => ?_) | refine ixiq (fun y9 hy9 qy9 ly9 => ?_)
  first | refine ixs ?_ | refine ixo (by assumption) ?_ | refine ixoq (fun z1 hz1 qz1 lz1 => ?_) | skip
  refine callP (impl_InsOk_f _).k ?_
  refine cnd (fun hb2 => ?_) (fun hb2 => ?_)
  ·refine hN1 _ _ _ ?_
   exact resV (by first | (unfold progOk; rw [ha.1 _ (by assumption) (by first | assumption | exact decide_eq_false (by omega) | exact decide_eq_true (by omega))]; rfl) | (unfold progOk; rw [ha.2 (by omega)]; first | rfl | (simp; done) | (simp; rfl) | (rw [Value.bool.injEq, Bool.eq_iff_iff]; simp; omega)))
  ·refine rng ?_
   refine hN1 _ _ _ ?_
   refine nxa (i + 1) (⟨by omega, all_next hyp.2 (by assumption) (by first | assumption | exact decide_eq_false (by omega) | exact decide_eq_true (by omega))⟩)
 ·refine hN1 _ _ _ ?_
  refine len ?_
  refine callP (impl_within_f _ _ _).k ?_
  exact resV (by first | (unfold progOk; rw [ha.1 _ (by assumption) (by first | assumption | exact decide_eq_false (by omega) | exact decide_eq_true (by omega))]; rfl) | (unfold progOk; rw [ha.2 (by omega)]; first | rfl | (simp; done) | (simp; rfl) | (rw [Value.bool.injEq, Bool.eq_iff_iff]; simp; omega)))
theorem spec_PendOk_f (p : Int) : Fun Tryz.prog 198 [I p] (RV (.bool (pendOk p))) := by
 refine Fun.w 5 Tryz.func198 fun w g0 _ => ?_
 refine callP (spec_l01In_f _ _ _).k ?_
 exact rfl
theorem impl_PendOk_f (p : Int) : Fun Tryz.prog 207 [I p] (RV (.bool (pendOk p))) := by
 refine Fun.w 5 Tryz.func207 fun w g0 _ => ?_
 refine callP (impl_within_f _ _ _).k ?_
 exact rfl
theorem spec_CtlFaults_f (x : VCtl) : Fun Tryz.prog 396 [A (rCtl x)] (RL 1 ((ctlFaults x).map dInt)) := by
 refine Fun.w 42 Tryz.func396 fun w g0 _ => ?_
 refine callP (spec_l01In_f _ _ _).k ?_
 refine cnd (fun hb => ?_) (fun hb => ?_)
 ·first | refine appPq ?_ | refine appP ?_
  refine callP (spec_l01In_f _ _ _).k ?_
  refine cnd (fun hb2 => ?_) (fun hb2 => ?_)
  ·first | refine appPq ?_ | refine appP ?_
   refine cnd (fun hg3 => ?_) (fun hg3 => ?_)
   ·refine cnd (fun hb3 => ?_) (fun hb3 => ?_)
    ·first | refine appPq ?_ | refine appP ?_
     refine cnd (fun hg3 => ?_) (fun hg3 => ?_)
     ·refine cnd (fun hb4 => ?_) (fun hb4 => ?_)
      ·first | refine appPq ?_ | refine appP ?_
       exact resL (by first | (simp_all [ctlFaults, elD, cellD]; done) | (simp only [ctlFaults, decide_eq_true_eq, ne_eq, *, if_true, if_false, not_true_eq_false, not_false_eq_true, and_true, and_false, true_and, false_and, Bool.true_eq_false, Bool.false_eq_true, and_self, eq_self, reduceCtorEq]; rfl))
      ·exact resL (by first | (simp_all [ctlFaults, elD, cellD]; done) | (simp only [ctlFaults, decide_eq_true_eq, ne_eq, *, if_true, if_false, not_true_eq_false, not_false_eq_true, and_true, and_false, true_and, false_and, Bool.true_eq_false, Bool.false_eq_true, and_self, eq_self, reduceCtorEq]; rfl))
     ·exact resL (by first | (simp_all [ctlFaults, elD, cellD]; done) | (simp only [ctlFaults, decide_eq_true_eq, ne_eq, *, if_true, if_false, not_true_eq_false, not_false_eq_true, and_true, and_false, true_and, false_and, Bool.true_eq_false, Bool.false_eq_true, and_self, eq_self, reduceCtorEq]; rfl))
    ·refine cnd (fun hg3 => ?_) (fun hg3 => ?_)
     ·refine cnd (fun hb5 => ?_) (fun hb5 => ?_)
      ·first | refine appPq ?_ | refine appP ?_
       exact resL (by first | (simp_all [ctlFaults, elD, cellD]; done) | (simp only [ctlFaults, decide_eq_true_eq, ne_eq, *, if_true, if_false, not_true_eq_false, not_false_eq_true, and_true, and_false, true_and, false_and, Bool.true_eq_false, Bool.false_eq_true, and_self, eq_self, reduceCtorEq]; rfl))
      ·exact resL (by first | (simp_all [ctlFaults, elD, cellD]; done) | (simp only [ctlFaults, decide_eq_true_eq, ne_eq, *, if_true, if_false, not_true_eq_false, not_false_eq_true, and_true, and_false, true_and, false_and, Bool.true_eq_false, Bool.false_eq_true, and_self, eq_self, reduceCtorEq]; rfl))
     ·exact resL (by first | (simp_all [ctlFaults, elD, cellD]; done) | (simp only [ctlFaults, decide_eq_true_eq, ne_eq, *, if_true, if_false, not_true_eq_false, not_false_eq_true, and_true, and_false, true_and, false_and, Bool.true_eq_false, Bool.false_eq_true, and_self, eq_self, reduceCtorEq]; rfl))
   ·refine cnd (fun hg3 => ?_) (fun hg3 => ?_)
    ·refine cnd (fun hb6 => ?_) (fun hb6 => ?_)
     ·first | refine appPq ?_ | refine appP ?_
      exact resL (by first | (simp_all [ctlFaults, elD, cellD]; done) | (simp only [ctlFaults, decide_eq_true_eq, ne_eq, *, if_true, if_false, not_true_eq_false, not_false_eq_true, and_true, and_false, true_and, false_and, Bool.true_eq_false, Bool.false_eq_true, and_self, eq_self, reduceCtorEq]; rfl))
     ·exact resL (by first | (simp_all [ctlFaults, elD, cellD]; done) | (simp only [ctlFaults, decide_eq_true_eq, ne_eq, *, if_true, if_false, not_true_eq_false, not_false_eq_true, and_true, and_false, true_and, false_and, Bool.true_eq_false, Bool.false_eq_true, and_self, eq_self, reduceCtorEq]; rfl))
    ·exact resL (by first | (simp_all [ctlFaults, elD, cellD]; done) | (simp only [ctlFaults, decide_eq_true_eq, ne_eq, *, if_true, if_false, not_true_eq_false, not_false_eq_true, and_true, and_false, true_and, false_and, Bool.true_eq_false, Bool.false_eq_true, and_self, eq_self, reduceCtorEq]; rfl))
  ·refine cnd (fun hg3 => ?_) (fun hg3 => ?_)
   ·refine cnd (fun hb7 => ?_) (fun hb7 => ?_)
    ·first | refine appPq ?_ | refine appP ?_
     refine cnd (fun hg3 => ?_) (fun hg3 => ?_)
     ·refine cnd (fun hb8 => ?_) (fun hb8 => ?_)
      ·first | refine appPq ?_ | refine appP ?_
       exact resL (by first | (simp_all [ctlFaults, elD, cellD]; done) | (simp only [ctlFaults, decide_eq_true_eq, ne_eq, *, if_true, if_false, not_true_eq_false, not_false_eq_true, and_true, and_false, true_and, false_and, Bool.true_eq_false, Bool.false_eq_true, and_self, eq_self, reduceCtorEq]; rfl))
      ·exact resL (by first | (simp_all [ctlFaults, elD, cellD]; done) | (simp only [ctlFaults, decide_eq_true_eq, ne_eq, *, if_true, if_false, not_true_eq_false, not_false_eq_true, and_true, and_false, true_and, false_and, Bool.true_eq_false, Bool.false_eq_true, and_self, eq_self, reduceCtorEq]; rfl))
     ·exact resL (by first | (simp_all [ctlFaults, elD, cellD]; done) | (simp only [ctlFaults, decide_eq_true_eq, ne_eq, *, if_true, if_false, not_true_eq_false, not_false_eq_true, and_true, and_false, true_and, false_and, Bool.true_eq_false, Bool.false_eq_true, and_self, eq_self, reduceCtorEq]; rfl))
    ·refine cnd (fun hg3 => ?_) (fun hg3 => ?_)
     ·refine cnd (fun hb9 => ?_) (fun hb9 => ?_)
      ·first | refine appPq ?_ | refine appP ?_
       exact resL (by first | (simp_all [ctlFaults, elD, cellD]; done) | (simp only [ctlFaults, decide_eq_true_eq, ne_eq, *, if_true, if_false, not_true_eq_false, not_false_eq_true, and_true, and_false, true_and, false_and, Bool.true_eq_false, Bool.false_eq_true, and_self, eq_self, reduceCtorEq]; rfl))
      ·exact resL (by first | (simp_all [ctlFaults, elD, cellD]; done) | (simp only [ctlFaults, decide_eq_true_eq, ne_eq, *, if_true, if_false, not_true_eq_false, not_false_eq_true, and_true, and_false, true_and, false_and, Bool.true_eq_false, Bool.false_eq_true, and_self, eq_self, reduceCtorEq]; rfl))
     ·exact resL (by first | (simp_all [ctlFaults, elD, cellD]; done) | (simp only [ctlFaults, decide_eq_true_eq, ne_eq, *, if_true, if_false, not_true_eq_false, not_false_eq_true, and_true, and_false, true_and, false_and, Bool.true_eq_false, Bool.false_eq_true, and_self, eq_self, reduceCtorEq]; rfl))
   ·refine cnd (fun hg3 => ?_) (fun hg3 => ?_)
    ·refine cnd (fun hb10 => ?_) (fun hb10 => ?_)
     ·first | refine appPq ?_ | refine appP ?_
      exact resL (by first | (simp_all [ctlFaults, elD, cellD]; done) | (simp only [ctlFaults, decide_eq_true_eq, ne_eq, *, if_true, if_false, not_true_eq_false, not_false_eq_true, and_true, and_false, true_and, false_and, Bool.true_eq_false, Bool.false_eq_true, and_self, eq_self, reduceCtorEq]; rfl))
     ·exact resL (by first | (simp_all [ctlFaults, elD, cellD]; done) | (simp only [ctlFaults, decide_eq_true_eq, ne_eq, *, if_true, if_false, not_true_eq_false, not_false_eq_true, and_true, and_false, true_and, false_and, Bool.true_eq_false, Bool.false_eq_true, and_self, eq_self, reduceCtorEq]; rfl))
    ·exact resL (by first | (simp_all [ctlFaults, elD, cellD]; done) | (simp only [ctlFaults, decide_eq_true_eq, ne_eq, *, if_true, if_false, not_true_eq_false, not_false_eq_true, and_true, and_false, true_and, false_and, Bool.true_eq_false, Bool.false_eq_true, and_self, eq_self, reduceCtorEq]; rfl))
 ·refine callP (spec_l01In_f _ _ _).k ?_
  refine cnd (fun hb11 => ?_) (fun hb11 => ?_)
  ·first | refine appPq ?_ | refine appP ?_
   refine cnd (fun hg3 => ?_) (fun hg3 => ?_)
   ·refine cnd (fun hb12 => ?_) (fun hb12 => ?_)
    ·first | refine appPq ?_ | refine appP ?_
     refine cnd (fun hg3 => ?_) (fun hg3 => ?_)
     ·refine cnd (fun hb13 => ?_) (fun hb13 => ?_)
      ·first | refine appPq ?_ | refine appP ?_
       exact resL (by first | (simp_all [ctlFaults, elD, cellD]; done) | (simp only [ctlFaults, decide_eq_true_eq, ne_eq, *, if_true, if_false, not_true_eq_false, not_false_eq_true, and_true, and_false, true_and, false_and, Bool.true_eq_false, Bool.false_eq_true, and_self, eq_self, reduceCtorEq]; rfl))
      ·exact resL (by first | (simp_all [ctlFaults, elD, cellD]; done) | (simp only [ctlFaults, decide_eq_true_eq, ne_eq, *, if_true, if_false, not_true_eq_false, not_false_eq_true, and_true, and_false, true_and, false_and, Bool.true_eq_false, Bool.false_eq_true, and_self, eq_self, reduceCtorEq]; rfl))
     ·exact resL (by first | (simp_all [ctlFaults, elD, cellD]; done) | (simp only [ctlFaults, decide_eq_true_eq, ne_eq, *, if_true, if_false, not_true_eq_false, not_false_eq_true, and_true, and_false, true_and, false_and, Bool.true_eq_false, Bool.false_eq_true, and_self, eq_self, reduceCtorEq]; rfl))
    ·refine cnd (fun hg3 => ?_) (fun hg3 => ?_)
     ·refine cnd (fun hb14 => ?_) (fun hb14 => ?_)
      ·first | refine appPq ?_ | refine appP ?_
       exact resL (by first | (simp_all [ctlFaults, elD, cellD]; done) | (simp only [ctlFaults, decide_eq_true_eq, ne_eq, *, if_true, if_false, not_true_eq_false, not_false_eq_true, and_true, and_false, true_and, false_and, Bool.true_eq_false, Bool.false_eq_true, and_self, eq_self, reduceCtorEq]; rfl))
      ·exact resL (by first | (simp_all [ctlFaults, elD, cellD]; done) | (simp only [ctlFaults, decide_eq_true_eq, ne_eq, *, if_true, if_false, not_true_eq_false, not_false_eq_true, and_true, and_false, true_and, false_and, Bool.true_eq_false, Bool.false_eq_true, and_self, eq_self, reduceCtorEq]; rfl))
     ·exact resL (by first | (simp_all [ctlFaults, elD, cellD]; done) | (simp only [ctlFaults, decide_eq_true_eq, ne_eq, *, if_true, if_false, not_true_eq_false, not_false_eq_true, and_true, and_false, true_and, false_and, Bool.true_eq_false, Bool.false_eq_true, and_self, eq_self, reduceCtorEq]; rfl))
   ·refine cnd (fun hg3 => ?_) (fun hg3 => ?_)
    ·refine cnd (fun hb15 => ?_) (fun hb15 => ?_)
     ·first | refine appPq ?_ | refine appP ?_
      exact resL (by first | (simp_all [ctlFaults, elD, cellD]; done) | (simp only [ctlFaults, decide_eq_true_eq, ne_eq, *, if_true, if_false, not_true_eq_false, not_false_eq_true, and_true, and_false, true_and, false_and, Bool.true_eq_false, Bool.false_eq_true, and_self, eq_self, reduceCtorEq]; rfl))
     ·exact resL (by first | (simp_all [ctlFaults, elD, cellD]; done) | (simp only [ctlFaults, decide_eq_true_eq, ne_eq, *, if_true, if_false, not_true_eq_false, not_false_eq_true, and_true, and_false, true_and, false_and, Bool.true_eq_false, Bool.false_eq_true, and_self, eq_self, reduceCtorEq]; rfl))
    ·exact resL (by first | (simp_all [ctlFaults, elD, cellD]; done) | (simp only [ctlFaults, decide_eq_true_eq, ne_eq, *, if_true, if_false, not_true_eq_false, not_false_eq_true, and_true, and_false, true_and, false_and, Bool.true_eq_false, Bool.false_eq_true, and_self, eq_self, reduceCtorEq]; rfl))
  ·refine cnd (fun hg3 => ?_) (fun hg3 => ?_)
   ·refine cnd (fun hb16 => ?_) (fun hb16 => ?_)
    ·first | refine appPq ?_ | refine appP ?_
     refine cnd (fun hg3 => ?_) (fun hg3 => ?_)
     ·refine cnd (fun hb17 => ?_) (fun hb17 => ?_)
      ·first | refine appPq ?_ | refine appP ?_
       exact resL (by first | (simp_all [ctlFaults, elD, cellD]; done) | (simp only [ctlFaults, decide_eq_true_eq, ne_eq, *, if_true, if_false, not_true_eq_false, not_false_eq_true, and_true, and_false, true_and, false_and, Bool.true_eq_false, Bool.false_eq_true, and_self, eq_self, reduceCtorEq]; rfl))
      ·exact resL (by first | (simp_all [ctlFaults, elD, cellD]; done) | (simp only [ctlFaults, decide_eq_true_eq, ne_eq, *, if_true, if_false, not_true_eq_false, not_false_eq_true, and_true, and_false, true_and, false_and, Bool.true_eq_false, Bool.false_eq_true, and_self, eq_self, reduceCtorEq]; rfl))
     ·exact resL (by first | (simp_all [ctlFaults, elD, cellD]; done) | (simp only [ctlFaults, decide_eq_true_eq, ne_eq, *, if_true, if_false, not_true_eq_false, not_false_eq_true, and_true, and_false, true_and, false_and, Bool.true_eq_false, Bool.false_eq_true, and_self, eq_self, reduceCtorEq]; rfl))
    ·refine cnd (fun hg3 => ?_) (fun hg3 => ?_)
     ·refine cnd (fun hb18 => ?_) (fun hb18 => ?_)
      ·first | refine appPq ?_ | refine appP ?_
       exact resL (by first | (simp_all [ctlFaults, elD, cellD]; done) | (simp only [ctlFaults, decide_eq_true_eq, ne_eq, *, if_true, if_false, not_true_eq_false, not_false_eq_true, and_true, and_false, true_and, false_and, Bool.true_eq_false, Bool.false_eq_true, and_self, eq_self, reduceCtorEq]; rfl))
      ·exact resL (by first | (simp_all [ctlFaults, elD, cellD]; done) | (simp only [ctlFaults, decide_eq_true_eq, ne_eq, *, if_true, if_false, not_true_eq_false, not_false_eq_true, and_true, and_false, true_and, false_and, Bool.true_eq_false, Bool.false_eq_true, and_self, eq_self, reduceCtorEq]; rfl))
     ·exact resL (by first | (simp_all [ctlFaults, elD, cellD]; done) | (simp only [ctlFaults, decide_eq_true_eq, ne_eq, *, if_true, if_false, not_true_eq_false, not_false_eq_true, and_true, and_false, true_and, false_and, Bool.true_eq_false, Bool.false_eq_true, and_self, eq_self, reduceCtorEq]; rfl))
   ·refine cnd (fun hg3 => ?_) (fun hg3 => ?_)
    ·refine cnd (fun hb19 => ?_) (fun hb19 => ?_)
     ·first | refine appPq ?_ | refine appP ?_
      exact resL (by first | (simp_all [ctlFaults, elD, cellD]; done) | (simp only [ctlFaults, decide_eq_true_eq, ne_eq, *, if_true, if_false, not_true_eq_false, not_false_eq_true, and_true, and_false, true_and, false_and, Bool.true_eq_false, Bool.false_eq_true, and_self, eq_self, reduceCtorEq]; rfl))
     ·exact resL (by first | (simp_all [ctlFaults, elD, cellD]; done) | (simp only [ctlFaults, decide_eq_true_eq, ne_eq, *, if_true, if_false, not_true_eq_false, not_false_eq_true, and_true, and_false, true_and, false_and, Bool.true_eq_false, Bool.false_eq_true, and_self, eq_self, reduceCtorEq]; rfl))
    ·exact resL (by first | (simp_all [ctlFaults, elD, cellD]; done) | (simp only [ctlFaults, decide_eq_true_eq, ne_eq, *, if_true, if_false, not_true_eq_false, not_false_eq_true, and_true, and_false, true_and, false_and, Bool.true_eq_false, Bool.false_eq_true, and_self, eq_self, reduceCtorEq]; rfl))
theorem impl_CtlFaults_f (x : VCtl) : Fun Tryz.prog 398 [A (rCtl x)] (RL 1 ((ctlFaults x).map dInt)) := by
 refine Fun.w 42 Tryz.func398 fun w g0 _ => ?_
 refine callP (impl_within_f _ _ _).k ?_
 refine cnd (fun hb => ?_) (fun hb => ?_)
 ·first | refine appPq ?_ | refine appP ?_
  refine callP (impl_within_f _ _ _).k ?_
  refine cnd (fun hb2 => ?_) (fun hb2 => ?_)
  ·first | refine appPq ?_ | refine appP ?_
   refine cnd (fun hg3 => ?_) (fun hg3 => ?_)
   ·refine cnd (fun hb3 => ?_) (fun hb3 => ?_)
    ·first | refine appPq ?_ | refine appP ?_
     refine cnd (fun hg3 => ?_) (fun hg3 => ?_)
     ·refine cnd (fun hb4 => ?_) (fun hb4 => ?_)
      ·first | refine appPq ?_ | refine appP ?_
       exact resL (by first | (simp_all [ctlFaults, elD, cellD]; done) | (simp only [ctlFaults, decide_eq_true_eq, ne_eq, *, if_true, if_false, not_true_eq_false, not_false_eq_true, and_true, and_false, true_and, false_and, Bool.true_eq_false, Bool.false_eq_true, and_self, eq_self, reduceCtorEq]; rfl))
      ·exact resL (by first | (simp_all [ctlFaults, elD, cellD]; done) | (simp only [ctlFaults, decide_eq_true_eq, ne_eq, *, if_true, if_false, not_true_eq_false, not_false_eq_true, and_true, and_false, true_and, false_and, Bool.true_eq_false, Bool.false_eq_true, and_self, eq_self, reduceCtorEq]; rfl))
     ·exact resL (by first | (simp_all [ctlFaults, elD, cellD]; done) | (simp only [ctlFaults, decide_eq_true_eq, ne_eq, *, if_true, if_false, not_true_eq_false, not_false_eq_true, and_true, and_false, true_and, false_and, Bool.true_eq_false, Bool.false_eq_true, and_self, eq_self, reduceCtorEq]; rfl))
    ·refine cnd (fun hg3 => ?_) (fun hg3 => ?_)
     ·refine cnd (fun hb5 => ?_) (fun hb5 => ?_)
      ·first | refine appPq ?_ | refine appP ?_
       exact resL (by first | (simp_all [ctlFaults, elD, cellD]; done) | (simp only [ctlFaults, decide_eq_true_eq, ne_eq, *, if_true, if_false, not_true_eq_false, not_false_eq_true, and_true, and_false, true_and, false_and, Bool.true_eq_false, Bool.false_eq_true, and_self, eq_self, reduceCtorEq]; rfl))
      ·exact resL (by first | (simp_all [ctlFaults, elD, cellD]; done) | (simp only [ctlFaults, decide_eq_true_eq, ne_eq, *, if_true, if_false, not_true_eq_false, not_false_eq_true, and_true, and_false, true_and, false_and, Bool.true_eq_false, Bool.false_eq_true, and_self, eq_self, reduceCtorEq]; rfl))
     ·exact resL (by first | (simp_all [ctlFaults, elD, cellD]; done) | (simp only [ctlFaults, decide_eq_true_eq, ne_eq, *, if_true, if_false, not_true_eq_false, not_false_eq_true, and_true, and_false, true_and, false_and, Bool.true_eq_false, Bool.false_eq_true, and_self, eq_self, reduceCtorEq]; rfl))
   ·refine cnd (fun hg3 => ?_) (fun hg3 => ?_)
    ·refine cnd (fun hb6 => ?_) (fun hb6 => ?_)
     ·first | refine appPq ?_ | refine appP ?_
      exact resL (by first | (simp_all [ctlFaults, elD, cellD]; done) | (simp only [ctlFaults, decide_eq_true_eq, ne_eq, *, if_true, if_false, not_true_eq_false, not_false_eq_true, and_true, and_false, true_and, false_and, Bool.true_eq_false, Bool.false_eq_true, and_self, eq_self, reduceCtorEq]; rfl))
     ·exact resL (by first | (simp_all [ctlFaults, elD, cellD]; done) | (simp only [ctlFaults, decide_eq_true_eq, ne_eq, *, if_true, if_false, not_true_eq_false, not_false_eq_true, and_true, and_false, true_and, false_and, Bool.true_eq_false, Bool.false_eq_true, and_self, eq_self, reduceCtorEq]; rfl))
    ·exact resL (by first | (simp_all [ctlFaults, elD, cellD]; done) | (simp only [ctlFaults, decide_eq_true_eq, ne_eq, *, if_true, if_false, not_true_eq_false, not_false_eq_true, and_true, and_false, true_and, false_and, Bool.true_eq_false, Bool.false_eq_true, and_self, eq_self, reduceCtorEq]; rfl))
  ·refine cnd (fun hg3 => ?_) (fun hg3 => ?_)
   ·refine cnd (fun hb7 => ?_) (fun hb7 => ?_)
    ·first | refine appPq ?_ | refine appP ?_
     refine cnd (fun hg3 => ?_) (fun hg3 => ?_)
     ·refine cnd (fun hb8 => ?_) (fun hb8 => ?_)
      ·first | refine appPq ?_ | refine appP ?_
       exact resL (by first | (simp_all [ctlFaults, elD, cellD]; done) | (simp only [ctlFaults, decide_eq_true_eq, ne_eq, *, if_true, if_false, not_true_eq_false, not_false_eq_true, and_true, and_false, true_and, false_and, Bool.true_eq_false, Bool.false_eq_true, and_self, eq_self, reduceCtorEq]; rfl))
      ·exact resL (by first | (simp_all [ctlFaults, elD, cellD]; done) | (simp only [ctlFaults, decide_eq_true_eq, ne_eq, *, if_true, if_false, not_true_eq_false, not_false_eq_true, and_true, and_false, true_and, false_and, Bool.true_eq_false, Bool.false_eq_true, and_self, eq_self, reduceCtorEq]; rfl))
     ·exact resL (by first | (simp_all [ctlFaults, elD, cellD]; done) | (simp only [ctlFaults, decide_eq_true_eq, ne_eq, *, if_true, if_false, not_true_eq_false, not_false_eq_true, and_true, and_false, true_and, false_and, Bool.true_eq_false, Bool.false_eq_true, and_self, eq_self, reduceCtorEq]; rfl))
    ·refine cnd (fun hg3 => ?_) (fun hg3 => ?_)
     ·refine cnd (fun hb9 => ?_) (fun hb9 => ?_)
      ·first | refine appPq ?_ | refine appP ?_
       exact resL (by first | (simp_all [ctlFaults, elD, cellD]; done) | (simp only [ctlFaults, decide_eq_true_eq, ne_eq, *, if_true, if_false, not_true_eq_false, not_false_eq_true, and_true, and_false, true_and, false_and, Bool.true_eq_false, Bool.false_eq_true, and_self, eq_self, reduceCtorEq]; rfl))
      ·exact resL (by first | (simp_all [ctlFaults, elD, cellD]; done) | (simp only [ctlFaults, decide_eq_true_eq, ne_eq, *, if_true, if_false, not_true_eq_false, not_false_eq_true, and_true, and_false, true_and, false_and, Bool.true_eq_false, Bool.false_eq_true, and_self, eq_self, reduceCtorEq]; rfl))
     ·exact resL (by first | (simp_all [ctlFaults, elD, cellD]; done) | (simp only [ctlFaults, decide_eq_true_eq, ne_eq, *, if_true, if_false, not_true_eq_false, not_false_eq_true, and_true, and_false, true_and, false_and, Bool.true_eq_false, Bool.false_eq_true, and_self, eq_self, reduceCtorEq]; rfl))
   ·refine cnd (fun hg3 => ?_) (fun hg3 => ?_)
    ·refine cnd (fun hb10 => ?_) (fun hb10 => ?_)
     ·first | refine appPq ?_ | refine appP ?_
      exact resL (by first | (simp_all [ctlFaults, elD, cellD]; done) | (simp only [ctlFaults, decide_eq_true_eq, ne_eq, *, if_true, if_false, not_true_eq_false, not_false_eq_true, and_true, and_false, true_and, false_and, Bool.true_eq_false, Bool.false_eq_true, and_self, eq_self, reduceCtorEq]; rfl))
     ·exact resL (by first | (simp_all [ctlFaults, elD, cellD]; done) | (simp only [ctlFaults, decide_eq_true_eq, ne_eq, *, if_true, if_false, not_true_eq_false, not_false_eq_true, and_true, and_false, true_and, false_and, Bool.true_eq_false, Bool.false_eq_true, and_self, eq_self, reduceCtorEq]; rfl))
    ·exact resL (by first | (simp_all [ctlFaults, elD, cellD]; done) | (simp only [ctlFaults, decide_eq_true_eq, ne_eq, *, if_true, if_false, not_true_eq_false, not_false_eq_true, and_true, and_false, true_and, false_and, Bool.true_eq_false, Bool.false_eq_true, and_self, eq_self, reduceCtorEq]; rfl))
 ·refine callP (impl_within_f _ _ _).k ?_
  refine cnd (fun hb11 => ?_) (fun hb11 => ?_)
  ·first | refine appPq ?_ | refine appP ?_
   refine cnd (fun hg3 => ?_) (fun hg3 => ?_)
   ·refine cnd (fun hb12 => ?_) (fun hb12 => ?_)
    ·first | refine appPq ?_ | refine appP ?_
     refine cnd (fun hg3 => ?_) (fun hg3 => ?_)
     ·refine cnd (fun hb13 => ?_) (fun hb13 => ?_)
      ·first | refine appPq ?_ | refine appP ?_
       exact resL (by first | (simp_all [ctlFaults, elD, cellD]; done) | (simp only [ctlFaults, decide_eq_true_eq, ne_eq, *, if_true, if_false, not_true_eq_false, not_false_eq_true, and_true, and_false, true_and, false_and, Bool.true_eq_false, Bool.false_eq_true, and_self, eq_self, reduceCtorEq]; rfl))
      ·exact resL (by first | (simp_all [ctlFaults, elD, cellD]; done) | (simp only [ctlFaults, decide_eq_true_eq, ne_eq, *, if_true, if_false, not_true_eq_false, not_false_eq_true, and_true, and_false, true_and, false_and, Bool.true_eq_false, Bool.false_eq_true, and_self, eq_self, reduceCtorEq]; rfl))
     ·exact resL (by first | (simp_all [ctlFaults, elD, cellD]; done) | (simp only [ctlFaults, decide_eq_true_eq, ne_eq, *, if_true, if_false, not_true_eq_false, not_false_eq_true, and_true, and_false, true_and, false_and, Bool.true_eq_false, Bool.false_eq_true, and_self, eq_self, reduceCtorEq]; rfl))
    ·refine cnd (fun hg3 => ?_) (fun hg3 => ?_)
     ·refine cnd (fun hb14 => ?_) (fun hb14 => ?_)
      ·first | refine appPq ?_ | refine appP ?_
       exact resL (by first | (simp_all [ctlFaults, elD, cellD]; done) | (simp only [ctlFaults, decide_eq_true_eq, ne_eq, *, if_true, if_false, not_true_eq_false, not_false_eq_true, and_true, and_false, true_and, false_and, Bool.true_eq_false, Bool.false_eq_true, and_self, eq_self, reduceCtorEq]; rfl))
      ·exact resL (by first | (simp_all [ctlFaults, elD, cellD]; done) | (simp only [ctlFaults, decide_eq_true_eq, ne_eq, *, if_true, if_false, not_true_eq_false, not_false_eq_true, and_true, and_false, true_and, false_and, Bool.true_eq_false, Bool.false_eq_true, and_self, eq_self, reduceCtorEq]; rfl))
     ·exact resL (by first | (simp_all [ctlFaults, elD, cellD]; done) | (simp only [ctlFaults, decide_eq_true_eq, ne_eq, *, if_true, if_false, not_true_eq_false, not_false_eq_true, and_true, and_false, true_and, false_and, Bool.true_eq_false, Bool.false_eq_true, and_self, eq_self, reduceCtorEq]; rfl))
   ·refine cnd (fun hg3 => ?_) (fun hg3 => ?_)
    ·refine cnd (fun hb15 => ?_) (fun hb15 => ?_)
     ·first | refine appPq ?_ | refine appP ?_
      exact resL (by first | (simp_all [ctlFaults, elD, cellD]; done) | (simp only [ctlFaults, decide_eq_true_eq, ne_eq, *, if_true, if_false, not_true_eq_false, not_false_eq_true, and_true, and_false, true_and, false_and, Bool.true_eq_false, Bool.false_eq_true, and_self, eq_self, reduceCtorEq]; rfl))
     ·exact resL (by first | (simp_all [ctlFaults, elD, cellD]; done) | (simp only [ctlFaults, decide_eq_true_eq, ne_eq, *, if_true, if_false, not_true_eq_false, not_false_eq_true, and_true, and_false, true_and, false_and, Bool.true_eq_false, Bool.false_eq_true, and_self, eq_self, reduceCtorEq]; rfl))
    ·exact resL (by first | (simp_all [ctlFaults, elD, cellD]; done) | (simp only [ctlFaults, decide_eq_true_eq, ne_eq, *, if_true, if_false, not_true_eq_false, not_false_eq_true, and_true, and_false, true_and, false_and, Bool.true_eq_false, Bool.false_eq_true, and_self, eq_self, reduceCtorEq]; rfl))
  ·refine cnd (fun hg3 => ?_) (fun hg3 => ?_)
   ·refine cnd (fun hb16 => ?_) (fun hb16 => ?_)
    ·first | refine appPq ?_ | refine appP ?_
     refine cnd (fun hg3 => ?_) (fun hg3 => ?_)
     ·refine cnd (fun hb17 => ?_) (fun hb17 => ?_)
      ·first | refine appPq ?_ | refine appP ?_
       exact resL (by first | (simp_all [ctlFaults, elD, cellD]; done) | (simp only [ctlFaults, decide_eq_true_eq, ne_eq, *, if_true, if_false, not_true_eq_false, not_false_eq_true, and_true, and_false, true_and, false_and, Bool.true_eq_false, Bool.false_eq_true, and_self, eq_self, reduceCtorEq]; rfl))
      ·exact resL (by first | (simp_all [ctlFaults, elD, cellD]; done) | (simp only [ctlFaults, decide_eq_true_eq, ne_eq, *, if_true, if_false, not_true_eq_false, not_false_eq_true, and_true, and_false, true_and, false_and, Bool.true_eq_false, Bool.false_eq_true, and_self, eq_self, reduceCtorEq]; rfl))
     ·exact resL (by first | (simp_all [ctlFaults, elD, cellD]; done) | (simp only [ctlFaults, decide_eq_true_eq, ne_eq, *, if_true, if_false, not_true_eq_false, not_false_eq_true, and_true, and_false, true_and, false_and, Bool.true_eq_false, Bool.false_eq_true, and_self, eq_self, reduceCtorEq]; rfl))
    ·refine cnd (fun hg3 => ?_) (fun hg3 => ?_)
     ·refine cnd (fun hb18 => ?_) (fun hb18 => ?_)
      ·first | refine appPq ?_ | refine appP ?_
       exact resL (by first | (simp_all [ctlFaults, elD, cellD]; done) | (simp only [ctlFaults, decide_eq_true_eq, ne_eq, *, if_true, if_false, not_true_eq_false, not_false_eq_true, and_true, and_false, true_and, false_and, Bool.true_eq_false, Bool.false_eq_true, and_self, eq_self, reduceCtorEq]; rfl))
      ·exact resL (by first | (simp_all [ctlFaults, elD, cellD]; done) | (simp only [ctlFaults, decide_eq_true_eq, ne_eq, *, if_true, if_false, not_true_eq_false, not_false_eq_true, and_true, and_false, true_and, false_and, Bool.true_eq_false, Bool.false_eq_true, and_self, eq_self, reduceCtorEq]; rfl))
     ·exact resL (by first | (simp_all [ctlFaults, elD, cellD]; done) | (simp only [ctlFaults, decide_eq_true_eq, ne_eq, *, if_true, if_false, not_true_eq_false, not_false_eq_true, and_true, and_false, true_and, false_and, Bool.true_eq_false, Bool.false_eq_true, and_self, eq_self, reduceCtorEq]; rfl))
   ·refine cnd (fun hg3 => ?_) (fun hg3 => ?_)
    ·refine cnd (fun hb19 => ?_) (fun hb19 => ?_)
     ·first | refine appPq ?_ | refine appP ?_
      exact resL (by first | (simp_all [ctlFaults, elD, cellD]; done) | (simp only [ctlFaults, decide_eq_true_eq, ne_eq, *, if_true, if_false, not_true_eq_false, not_false_eq_true, and_true, and_false, true_and, false_and, Bool.true_eq_false, Bool.false_eq_true, and_self, eq_self, reduceCtorEq]; rfl))
     ·exact resL (by first | (simp_all [ctlFaults, elD, cellD]; done) | (simp only [ctlFaults, decide_eq_true_eq, ne_eq, *, if_true, if_false, not_true_eq_false, not_false_eq_true, and_true, and_false, true_and, false_and, Bool.true_eq_false, Bool.false_eq_true, and_self, eq_self, reduceCtorEq]; rfl))
    ·exact resL (by first | (simp_all [ctlFaults, elD, cellD]; done) | (simp only [ctlFaults, decide_eq_true_eq, ne_eq, *, if_true, if_false, not_true_eq_false, not_false_eq_true, and_true, and_false, true_and, false_and, Bool.true_eq_false, Bool.false_eq_true, and_self, eq_self, reduceCtorEq]; rfl))
theorem spec_CtlOk_f (x : VCtl) : Fun Tryz.prog 292 [A (rCtl x)] (RV (.bool (ctlOk x))) := by
 refine Fun.w 7 Tryz.func292 fun w g0 _ => ?_
 refine callL (spec_CtlFaults_f _).k ?_
 refine len ?_
 exact resV (by first | (unfold ctlOk; refine congrArg Value.bool ?_; rw [Bool.eq_iff_iff]; simp))
theorem impl_CtlOk_f (x : VCtl) : Fun Tryz.prog 299 [A (rCtl x)] (RV (.bool (ctlOk x))) := by
 refine Fun.w 7 Tryz.func299 fun w g0 _ => ?_
 refine callL (impl_CtlFaults_f _).k ?_
 refine len ?_
 exact resV (by first | (unfold ctlOk; refine congrArg Value.bool ?_; rw [Bool.eq_iff_iff]; simp))
theorem spec_ExitOk_f (x : VExit) : Fun Tryz.prog 293 [A (rExit x)] (RV (.bool (exitOk x))) := by
 refine Fun.w 39 Tryz.func293 fun w g0 _ => ?_
 refine cnd (fun hb => ?_) (fun hb => ?_)
 ·refine eqa ?_
  exact resV (by first | (cases x; simp_all [exitOk, eqVs, eqV]; done) | (cases x; simp_all [exitOk, eqVs, eqV]; omega) | (cases x; simp_all [exitOk, eqVs, eqV] <;> (try intros) <;> omega) | (cases x; simp_all [exitOk, eqVs, eqV] <;> rfl) | (cases x; simp_all [exitOk, eqVs, eqV]; rw [Bool.eq_iff_iff]; simp [and_assoc]))
 ·refine cnd (fun hb2 => ?_) (fun hb2 => ?_)
  ·refine eqa ?_
   exact resV (by first | (cases x; simp_all [exitOk, eqVs, eqV]; done) | (cases x; simp_all [exitOk, eqVs, eqV]; omega) | (cases x; simp_all [exitOk, eqVs, eqV] <;> (try intros) <;> omega) | (cases x; simp_all [exitOk, eqVs, eqV] <;> rfl) | (cases x; simp_all [exitOk, eqVs, eqV]; rw [Bool.eq_iff_iff]; simp [and_assoc]))
  ·refine cnd (fun hb3 => ?_) (fun hb3 => ?_)
   ·refine callP (spec_l01In_f _ _ _).k ?_
    refine cnd (fun hg3 => ?_) (fun hg3 => ?_)
    ·exact resV (by first | (cases x; simp_all [exitOk, eqVs, eqV]; done) | (cases x; simp_all [exitOk, eqVs, eqV]; omega) | (cases x; simp_all [exitOk, eqVs, eqV] <;> (try intros) <;> omega) | (cases x; simp_all [exitOk, eqVs, eqV] <;> rfl) | (cases x; simp_all [exitOk, eqVs, eqV]; rw [Bool.eq_iff_iff]; simp [and_assoc]))
    ·exact resV (by first | (cases x; simp_all [exitOk, eqVs, eqV]; done) | (cases x; simp_all [exitOk, eqVs, eqV]; omega) | (cases x; simp_all [exitOk, eqVs, eqV] <;> (try intros) <;> omega) | (cases x; simp_all [exitOk, eqVs, eqV] <;> rfl) | (cases x; simp_all [exitOk, eqVs, eqV]; rw [Bool.eq_iff_iff]; simp [and_assoc]))
   ·refine cnd (fun hb4 => ?_) (fun hb4 => ?_)
    ·refine callP (spec_l01In_f _ _ _).k ?_
     refine cnd (fun hg3 => ?_) (fun hg3 => ?_)
     ·refine cnd (fun hg8 => ?_) (fun hg8 => ?_)
      ·exact resV (by first | (cases x; simp_all [exitOk, eqVs, eqV]; done) | (cases x; simp_all [exitOk, eqVs, eqV]; omega) | (cases x; simp_all [exitOk, eqVs, eqV] <;> (try intros) <;> omega) | (cases x; simp_all [exitOk, eqVs, eqV] <;> rfl) | (cases x; simp_all [exitOk, eqVs, eqV]; rw [Bool.eq_iff_iff]; simp [and_assoc]))
      ·exact resV (by first | (cases x; simp_all [exitOk, eqVs, eqV]; done) | (cases x; simp_all [exitOk, eqVs, eqV]; omega) | (cases x; simp_all [exitOk, eqVs, eqV] <;> (try intros) <;> omega) | (cases x; simp_all [exitOk, eqVs, eqV] <;> rfl) | (cases x; simp_all [exitOk, eqVs, eqV]; rw [Bool.eq_iff_iff]; simp [and_assoc]))
     ·exact resV (by first | (cases x; simp_all [exitOk, eqVs, eqV]; done) | (cases x; simp_all [exitOk, eqVs, eqV]; omega) | (cases x; simp_all [exitOk, eqVs, eqV] <;> (try intros) <;> omega) | (cases x; simp_all [exitOk, eqVs, eqV] <;> rfl) | (cases x; simp_all [exitOk, eqVs, eqV]; rw [Bool.eq_iff_iff]; simp [and_assoc]))
    ·refine cnd (fun hb5 => ?_) (fun hb5 => ?_)
     ·refine callP (spec_l01In_f _ _ _).k ?_
      refine cnd (fun hg3 => ?_) (fun hg3 => ?_)
      ·refine cnd (fun hg8 => ?_) (fun hg8 => ?_)
       ·exact resV (by first | (cases x; simp_all [exitOk, eqVs, eqV]; done) | (cases x; simp_all [exitOk, eqVs, eqV]; omega) | (cases x; simp_all [exitOk, eqVs, eqV] <;> (try intros) <;> omega) | (cases x; simp_all [exitOk, eqVs, eqV] <;> rfl) | (cases x; simp_all [exitOk, eqVs, eqV]; rw [Bool.eq_iff_iff]; simp [and_assoc]))
       ·exact resV (by first | (cases x; simp_all [exitOk, eqVs, eqV]; done) | (cases x; simp_all [exitOk, eqVs, eqV]; omega) | (cases x; simp_all [exitOk, eqVs, eqV] <;> (try intros) <;> omega) | (cases x; simp_all [exitOk, eqVs, eqV] <;> rfl) | (cases x; simp_all [exitOk, eqVs, eqV]; rw [Bool.eq_iff_iff]; simp [and_assoc]))
      ·exact resV (by first | (cases x; simp_all [exitOk, eqVs, eqV]; done) | (cases x; simp_all [exitOk, eqVs, eqV]; omega) | (cases x; simp_all [exitOk, eqVs, eqV] <;> (try intros) <;> omega) | (cases x; simp_all [exitOk, eqVs, eqV] <;> rfl) | (cases x; simp_all [exitOk, eqVs, eqV]; rw [Bool.eq_iff_iff]; simp [and_assoc]))
     ·exact resV (by first | (cases x; simp_all [exitOk, eqVs, eqV]; done) | (cases x; simp_all [exitOk, eqVs, eqV]; omega) | (cases x; simp_all [exitOk, eqVs, eqV] <;> (try intros) <;> omega) | (cases x; simp_all [exitOk, eqVs, eqV] <;> rfl) | (cases x; simp_all [exitOk, eqVs, eqV]; rw [Bool.eq_iff_iff]; simp [and_assoc]))
theorem impl_ExitOk_f (x : VExit) : Fun Tryz.prog 300 [A (rExit x)] (RV (.bool (exitOk x))) := by
 refine Fun.w 47 Tryz.func300 fun w g0 _ => ?_
 refine cnd (fun hb => ?_) (fun hb => ?_)
 ·refine cnd (fun hg3 => ?_) (fun hg3 => ?_)
  ·refine cnd (fun hg8 => ?_) (fun hg8 => ?_)
   ·exact resV (by first | (cases x; simp_all [exitOk, eqVs, eqV]; done) | (cases x; simp_all [exitOk, eqVs, eqV]; omega) | (cases x; simp_all [exitOk, eqVs, eqV] <;> (try intros) <;> omega) | (cases x; simp_all [exitOk, eqVs, eqV] <;> rfl) | (cases x; simp_all [exitOk, eqVs, eqV]; rw [Bool.eq_iff_iff]; simp [and_assoc]))
   ·exact resV (by first | (cases x; simp_all [exitOk, eqVs, eqV]; done) | (cases x; simp_all [exitOk, eqVs, eqV]; omega) | (cases x; simp_all [exitOk, eqVs, eqV] <;> (try intros) <;> omega) | (cases x; simp_all [exitOk, eqVs, eqV] <;> rfl) | (cases x; simp_all [exitOk, eqVs, eqV]; rw [Bool.eq_iff_iff]; simp [and_assoc]))
  ·exact resV (by first | (cases x; simp_all [exitOk, eqVs, eqV]; done) | (cases x; simp_all [exitOk, eqVs, eqV]; omega) | (cases x; simp_all [exitOk, eqVs, eqV] <;> (try intros) <;> omega) | (cases x; simp_all [exitOk, eqVs, eqV] <;> rfl) | (cases x; simp_all [exitOk, eqVs, eqV]; rw [Bool.eq_iff_iff]; simp [and_assoc]))
 ·refine cnd (fun hb2 => ?_) (fun hb2 => ?_)
  ·refine cnd (fun hg3 => ?_) (fun hg3 => ?_)
   ·refine cnd (fun hg8 => ?_) (fun hg8 => ?_)
    ·exact resV (by first | (cases x; simp_all [exitOk, eqVs, eqV]; done) | (cases x; simp_all [exitOk, eqVs, eqV]; omega) | (cases x; simp_all [exitOk, eqVs, eqV] <;> (try intros) <;> omega) | (cases x; simp_all [exitOk, eqVs, eqV] <;> rfl) | (cases x; simp_all [exitOk, eqVs, eqV]; rw [Bool.eq_iff_iff]; simp [and_assoc]))
    ·exact resV (by first | (cases x; simp_all [exitOk, eqVs, eqV]; done) | (cases x; simp_all [exitOk, eqVs, eqV]; omega) | (cases x; simp_all [exitOk, eqVs, eqV] <;> (try intros) <;> omega) | (cases x; simp_all [exitOk, eqVs, eqV] <;> rfl) | (cases x; simp_all [exitOk, eqVs, eqV]; rw [Bool.eq_iff_iff]; simp [and_assoc]))
   ·exact resV (by first | (cases x; simp_all [exitOk, eqVs, eqV]; done) | (cases x; simp_all [exitOk, eqVs, eqV]; omega) | (cases x; simp_all [exitOk, eqVs, eqV] <;> (try intros) <;> omega) | (cases x; simp_all [exitOk, eqVs, eqV] <;> rfl) | (cases x; simp_all [exitOk, eqVs, eqV]; rw [Bool.eq_iff_iff]; simp [and_assoc]))
  ·refine cnd (fun hb3 => ?_) (fun hb3 => ?_)
   ·refine callP (impl_within_f _ _ _).k ?_
    refine cnd (fun hg3 => ?_) (fun hg3 => ?_)
    ·exact resV (by first | (cases x; simp_all [exitOk, eqVs, eqV]; done) | (cases x; simp_all [exitOk, eqVs, eqV]; omega) | (cases x; simp_all [exitOk, eqVs, eqV] <;> (try intros) <;> omega) | (cases x; simp_all [exitOk, eqVs, eqV] <;> rfl) | (cases x; simp_all [exitOk, eqVs, eqV]; rw [Bool.eq_iff_iff]; simp [and_assoc]))
    ·exact resV (by first | (cases x; simp_all [exitOk, eqVs, eqV]; done) | (cases x; simp_all [exitOk, eqVs, eqV]; omega) | (cases x; simp_all [exitOk, eqVs, eqV] <;> (try intros) <;> omega) | (cases x; simp_all [exitOk, eqVs, eqV] <;> rfl) | (cases x; simp_all [exitOk, eqVs, eqV]; rw [Bool.eq_iff_iff]; simp [and_assoc]))
   ·refine cnd (fun hb4 => ?_) (fun hb4 => ?_)
    ·refine callP (impl_within_f _ _ _).k ?_
     refine cnd (fun hg3 => ?_) (fun hg3 => ?_)
     ·refine cnd (fun hg8 => ?_) (fun hg8 => ?_)
      ·exact resV (by first | (cases x; simp_all [exitOk, eqVs, eqV]; done) | (cases x; simp_all [exitOk, eqVs, eqV]; omega) | (cases x; simp_all [exitOk, eqVs, eqV] <;> (try intros) <;> omega) | (cases x; simp_all [exitOk, eqVs, eqV] <;> rfl) | (cases x; simp_all [exitOk, eqVs, eqV]; rw [Bool.eq_iff_iff]; simp [and_assoc]))
      ·exact resV (by first | (cases x; simp_all [exitOk, eqVs, eqV]; done) | (cases x; simp_all [exitOk, eqVs, eqV]; omega) | (cases x; simp_all [exitOk, eqVs, eqV] <;> (try intros) <;> omega) | (cases x; simp_all [exitOk, eqVs, eqV] <;> rfl) | (cases x; simp_all [exitOk, eqVs, eqV]; rw [Bool.eq_iff_iff]; simp [and_assoc]))
     ·exact resV (by first | (cases x; simp_all [exitOk, eqVs, eqV]; done) | (cases x; simp_all [exitOk, eqVs, eqV]; omega) | (cases x; simp_all [exitOk, eqVs, eqV] <;> (try intros) <;> omega) | (cases x; simp_all [exitOk, eqVs, eqV] <;> rfl) | (cases x; simp_all [exitOk, eqVs, eqV]; rw [Bool.eq_iff_iff]; simp [and_assoc]))
    ·refine cnd (fun hb5 => ?_) (fun hb5 => ?_)
     ·refine callP (impl_within_f _ _ _).k ?_
      refine cnd (fun hg3 => ?_) (fun hg3 => ?_)
      ·refine cnd (fun hg8 => ?_) (fun hg8 => ?_)
       ·exact resV (by first | (cases x; simp_all [exitOk, eqVs, eqV]; done) | (cases x; simp_all [exitOk, eqVs, eqV]; omega) | (cases x; simp_all [exitOk, eqVs, eqV] <;> (try intros) <;> omega) | (cases x; simp_all [exitOk, eqVs, eqV] <;> rfl) | (cases x; simp_all [exitOk, eqVs, eqV]; rw [Bool.eq_iff_iff]; simp [and_assoc]))
       ·exact resV (by first | (cases x; simp_all [exitOk, eqVs, eqV]; done) | (cases x; simp_all [exitOk, eqVs, eqV]; omega) | (cases x; simp_all [exitOk, eqVs, eqV] <;> (try intros) <;> omega) | (cases x; simp_all [exitOk, eqVs, eqV] <;> rfl) | (cases x; simp_all [exitOk, eqVs, eqV]; rw [Bool.eq_iff_iff]; simp [and_assoc]))
      ·exact resV (by first | (cases x; simp_all [exitOk, eqVs, eqV]; done) | (cases x; simp_all [exitOk, eqVs, eqV]; omega) | (cases x; simp_all [exitOk, eqVs, eqV] <;> (try intros) <;> omega) | (cases x; simp_all [exitOk, eqVs, eqV] <;> rfl) | (cases x; simp_all [exitOk, eqVs, eqV]; rw [Bool.eq_iff_iff]; simp [and_assoc]))
     ·exact resV (by first | (cases x; simp_all [exitOk, eqVs, eqV]; done) | (cases x; simp_all [exitOk, eqVs, eqV]; omega) | (cases x; simp_all [exitOk, eqVs, eqV] <;> (try intros) <;> omega) | (cases x; simp_all [exitOk, eqVs, eqV] <;> rfl) | (cases x; simp_all [exitOk, eqVs, eqV]; rw [Bool.eq_iff_iff]; simp [and_assoc]))
end Go.Proofs.YteelmdpahpggkaaGreat.T

