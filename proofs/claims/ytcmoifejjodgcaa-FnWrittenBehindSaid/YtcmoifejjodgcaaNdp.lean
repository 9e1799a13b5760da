
import Derived.Test.YtcmoifejjodgcaaNcp
namespace Go.Proofs.Ytcmoifejjodgcaa.T
open Go
set_option linter.unusedVariables false
set_option linter.unusedSimpArgs false
set_option maxRecDepth 100000
set_option maxHeartbeats 1000000
theorem impl_WithCell_f (m : List (List Int)) (p : Int) (c : Int) (v : Int) [Q (SmIntSS m)] : Fun Try.prog 27 [L 1 (m.map dIntS), I p, I c, I v] (RL 1 ((withCell m p c v).map dIntS)) := by
 refine Fun.w 37 Try.func27 fun w g0 hM => ?_
 have hl0 := hM.1.map
 refine callL (impl_copyMem_f _).k ?_
 refine len ?_
 refine callP (impl_has_f _ _).k ?_
 refine cnd (fun hg4 => ?_) (fun hg4 => ?_)
 ·first | refine ixm (by assumption) ?_ | refine bnd ?_ | refine bndi ?_ | refine ixkq (fun y20 hy20 qy20 ly20 => ?_) | refine ixiq (fun y20 hy20 qy20 ly20 => ?_)
  first | refine ixs ?_ | refine ixo (by assumption) ?_ | refine ixoq (fun z1 hz1 qz1 lz1 => ?_) | skip
  first | refine ixs ?_ | refine ixo (by assumption) ?_ | refine ixoq (fun z2 hz2 qz2 lz2 => ?_) | skip
  refine len ?_
  refine callP (impl_has_f _ _).k ?_
  refine cnd (fun hg13 => ?_) (fun hg13 => ?_)
  ·refine callP (impl_within_f _ _ _).k ?_
   refine cnd (fun hb => ?_) (fun hb => ?_)
   ·first | refine ixm (by assumption) ?_ | refine bnd ?_ | refine bndi ?_ | refine ixkq (fun y31 hy31 qy31 ly31 => ?_) | refine ixiq (fun y31 hy31 qy31 ly31 => ?_)
    first | refine ixs ?_ | refine ixo (by assumption) ?_ | refine ixoq (fun z3 hz3 qz3 lz3 => ?_) | skip
    first | refine ixs ?_ | refine ixo (by assumption) ?_ | refine ixoq (fun z4 hz4 qz4 lz4 => ?_) | skip
    first | refine ixm (by assumption) ?_ | refine bnd ?_ | refine bndi ?_ | refine ixkq (fun y35 hy35 qy35 ly35 => ?_) | refine ixiq (fun y35 hy35 qy35 ly35 => ?_)
    first | refine ixs ?_ | refine ixo (by assumption) ?_ | refine ixoq (fun z5 hz5 qz5 lz5 => ?_) | skip
    first | refine ixs ?_ | refine ixo (by assumption) ?_ | refine ixoq (fun z6 hz6 qz6 lz6 => ?_) | skip
    exact (by first | (rw [withCell_no (by first | exact .inl (by assumption) | exact .inr (by omega) | exact .inl (hasCell_no (by omega)) | (refine .inl ?_; rw [hasCell_in (by omega) (by assumption)]; exact decide_eq_false (by omega)))]; rfl) | (rw [withCell_yes (by omega) (by assumption) (by omega) (by omega)]; simp only [List.map_set, dIntS]; rfl))
   ·exact (by first | (rw [withCell_no (by first | exact .inl (by assumption) | exact .inr (by omega) | exact .inl (hasCell_no (by omega)) | (refine .inl ?_; rw [hasCell_in (by omega) (by assumption)]; exact decide_eq_false (by omega)))]; rfl) | (rw [withCell_yes (by omega) (by assumption) (by omega) (by omega)]; simp only [List.map_set, dIntS]; rfl))
  ·exact (by first | (rw [withCell_no (by first | exact .inl (by assumption) | exact .inr (by omega) | exact .inl (hasCell_no (by omega)) | (refine .inl ?_; rw [hasCell_in (by omega) (by assumption)]; exact decide_eq_false (by omega)))]; rfl) | (rw [withCell_yes (by omega) (by assumption) (by omega) (by omega)]; simp only [List.map_set, dIntS]; rfl))
 ·exact (by first | (rw [withCell_no (by first | exact .inl (by assumption) | exact .inr (by omega) | exact .inl (hasCell_no (by omega)) | (refine .inl ?_; rw [hasCell_in (by omega) (by assumption)]; exact decide_eq_false (by omega)))]; rfl) | (rw [withCell_yes (by omega) (by assumption) (by omega) (by omega)]; simp only [List.map_set, dIntS]; rfl))
theorem impl_WithPage_f (m : List (List Int)) (p : Int) (x : List Int) [Q (SmIntSS m)] [Q (SmIntS x)] : Fun Try.prog 69 [L 1 (m.map dIntS), I p, L 1 (x.map dInt)] (RL 1 ((withPage m p x).map dIntS)) := by
 refine Fun.w 24 Try.func69 fun w g0 hM => ?_
 have hl0 := hM.1.map
 refine callL (impl_copyMem_f _).k ?_
 refine len ?_
 refine callP (impl_has_f _ _).k ?_
 refine cnd (fun hg4 => ?_) (fun hg4 => ?_)
 ·refine callP (impl_PageOk_f _).k ?_
  refine cnd (fun hb => ?_) (fun hb => ?_)
  ·refine callL (impl_copyInts_f _).k ?_
   first | refine ixm (by assumption) ?_ | refine bnd ?_ | refine bndi ?_ | refine ixkq (fun y22 hy22 qy22 ly22 => ?_) | refine ixiq (fun y22 hy22 qy22 ly22 => ?_)
   first | refine ixs ?_ | refine ixo (by assumption) ?_ | refine ixoq (fun z1 hz1 qz1 lz1 => ?_) | skip
   exact (by first | (rw [withPage_no (by first | exact .inl (by omega) | exact .inr (by assumption))]; rfl) | (rw [withPage_yes (by omega) (by assumption)]; simp only [List.map_set, dIntS]; rfl))
  ·exact (by first | (rw [withPage_no (by first | exact .inl (by omega) | exact .inr (by assumption))]; rfl) | (rw [withPage_yes (by omega) (by assumption)]; simp only [List.map_set, dIntS]; rfl))
 ·exact (by first | (rw [withPage_no (by first | exact .inl (by omega) | exact .inr (by assumption))]; rfl) | (rw [withPage_yes (by omega) (by assumption)]; simp only [List.map_set, dIntS]; rfl))
theorem impl_InsOk_f (x : VIns) : Fun Try.prog 87 [A (rIns x)] (RV (.bool (insOk x))) := by
 refine Fun.w 29 Try.func87 fun w g0 _ => ?_
 refine cnd (fun hb => ?_) (fun hb => ?_)
 ·refine callP (impl_within_f _ _ _).k ?_
  exact resV (by first | (cases x; (simp_all [insOk]; done)) | (cases x; (simp_all [insOk]; omega)) | (cases x; (simp_all [insOk] <;> (try intros) <;> omega)) | (cases x; (refine congrArg Value.bool ?_; rw [Bool.eq_iff_iff]; simp [insOk]; omega)) | (cases x; (simp_all [insOk] <;> rfl)))
 ·refine cnd (fun hb2 => ?_) (fun hb2 => ?_)
  ·refine callP (impl_within_f _ _ _).k ?_
   exact resV (by first | (cases x; (simp_all [insOk]; done)) | (cases x; (simp_all [insOk]; omega)) | (cases x; (simp_all [insOk] <;> (try intros) <;> omega)) | (cases x; (refine congrArg Value.bool ?_; rw [Bool.eq_iff_iff]; simp [insOk]; omega)) | (cases x; (simp_all [insOk] <;> rfl)))
  ·refine cnd (fun hb3 => ?_) (fun hb3 => ?_)
   ·refine callP (impl_within_f _ _ _).k ?_
    exact resV (by first | (cases x; (simp_all [insOk]; done)) | (cases x; (simp_all [insOk]; omega)) | (cases x; (simp_all [insOk] <;> (try intros) <;> omega)) | (cases x; (refine congrArg Value.bool ?_; rw [Bool.eq_iff_iff]; simp [insOk]; omega)) | (cases x; (simp_all [insOk] <;> rfl)))
   ·refine cnd (fun hb4 => ?_) (fun hb4 => ?_)
    ·refine callP (impl_within_f _ _ _).k ?_
     exact resV (by first | (cases x; (simp_all [insOk]; done)) | (cases x; (simp_all [insOk]; omega)) | (cases x; (simp_all [insOk] <;> (try intros) <;> omega)) | (cases x; (refine congrArg Value.bool ?_; rw [Bool.eq_iff_iff]; simp [insOk]; omega)) | (cases x; (simp_all [insOk] <;> rfl)))
    ·refine cnd (fun hb5 => ?_) (fun hb5 => ?_)
     ·refine callP (impl_within_f _ _ _).k ?_
      exact resV (by first | (cases x; (simp_all [insOk]; done)) | (cases x; (simp_all [insOk]; omega)) | (cases x; (simp_all [insOk] <;> (try intros) <;> omega)) | (cases x; (refine congrArg Value.bool ?_; rw [Bool.eq_iff_iff]; simp [insOk]; omega)) | (cases x; (simp_all [insOk] <;> rfl)))
     ·refine cnd (fun hb6 => ?_) (fun hb6 => ?_)
      ·refine callP (impl_within_f _ _ _).k ?_
       exact resV (by first | (cases x; (simp_all [insOk]; done)) | (cases x; (simp_all [insOk]; omega)) | (cases x; (simp_all [insOk] <;> (try intros) <;> omega)) | (cases x; (refine congrArg Value.bool ?_; rw [Bool.eq_iff_iff]; simp [insOk]; omega)) | (cases x; (simp_all [insOk] <;> rfl)))
      ·refine cnd (fun hb7 => ?_) (fun hb7 => ?_)
       ·exact resV (by first | (cases x; (simp_all [insOk]; done)) | (cases x; (simp_all [insOk]; omega)) | (cases x; (simp_all [insOk] <;> (try intros) <;> omega)) | (cases x; (refine congrArg Value.bool ?_; rw [Bool.eq_iff_iff]; simp [insOk]; omega)) | (cases x; (simp_all [insOk] <;> rfl)))
       ·refine cnd (fun hb8 => ?_) (fun hb8 => ?_)
        ·refine callP (impl_within_f _ _ _).k ?_
         exact resV (by first | (cases x; (simp_all [insOk]; done)) | (cases x; (simp_all [insOk]; omega)) | (cases x; (simp_all [insOk] <;> (try intros) <;> omega)) | (cases x; (refine congrArg Value.bool ?_; rw [Bool.eq_iff_iff]; simp [insOk]; omega)) | (cases x; (simp_all [insOk] <;> rfl)))
        ·exact resV (by first | (cases x; (simp_all [insOk]; done)) | (cases x; (simp_all [insOk]; omega)) | (cases x; (simp_all [insOk] <;> (try intros) <;> omega)) | (cases x; (refine congrArg Value.bool ?_; rw [Bool.eq_iff_iff]; simp [insOk]; omega)) | (cases x; (simp_all [insOk] <;> rfl)))
theorem impl_ProgOk_f (p : List VIns) : Fun Try.prog 79 [L 2 (p.map dIns)] (RV (.bool (progOk p))) := by
 refine Fun.w 18 Try.func79 fun w g0 hM => ?_
 have hl0 := hM.1.map
 refine len ?_
 refine loopA [0, 5, 6, 15, 16, 17] [] [] (fun (i : Nat) => [.set 7 (I i)]) (fun (i : Nat) => []) (fun (i : Nat) => (i ≤ p.length) ∧ ((p.take i).all insOk = true)) (fun (i : Nat) => p.length - i) (0) (⟨Nat.zero_le _, rfl⟩) ?_
 refine ⟨hda, fun i hyp N1 hN1 => ?_⟩
 have hyp : (i ≤ p.length) ∧ ((p.take i).all insOk = true) := hyp
 have ha := all_dec hyp.2
 refine cnd (fun hb => ?_) (fun hb => ?_)
 ·first | refine ixm (by assumption) ?_ | refine bnd ?_ | refine bndi ?_ | refine ixkq (fun y9 hy9 qy9 ly9 => ?_) | refine ixiq (fun y9 hy9 qy9 ly9 => ?_)
  first | refine ixs ?_ | refine ixo (by assumption) ?_ | refine ixoq (fun z1 hz1 qz1 lz1 => ?_) | skip
  refine callP (impl_InsOk_f _).k ?_
  refine cnd (fun hb2 => ?_) (fun hb2 => ?_)
  ·refine hN1 _ _ _ ?_
   exact resV (by first | (unfold progOk; rw [ha.1 _ (by assumption) (by first | assumption | exact decide_eq_false (by omega) | exact decide_eq_true (by omega))]; rfl) | (unfold progOk; rw [ha.2 (by omega)]; first | rfl | (simp; done) | (simp; rfl) | (rw [Value.bool.injEq, Bool.eq_iff_iff]; simp; omega)))
  ·refine rng ?_
   refine hN1 _ _ _ ?_
   refine nxa (i + 1) (⟨by omega, all_next hyp.2 (by assumption) (by first | assumption | exact decide_eq_false (by omega) | exact decide_eq_true (by omega))⟩)
 ·refine hN1 _ _ _ ?_
  refine len ?_
  refine callP (impl_within_f _ _ _).k ?_
  exact resV (by first | (unfold progOk; rw [ha.1 _ (by assumption) (by first | assumption | exact decide_eq_false (by omega) | exact decide_eq_true (by omega))]; rfl) | (unfold progOk; rw [ha.2 (by omega)]; first | rfl | (simp; done) | (simp; rfl) | (rw [Value.bool.injEq, Bool.eq_iff_iff]; simp; omega)))
theorem impl_PendOk_f (p : Int) : Fun Try.prog 66 [I p] (RV (.bool (pendOk p))) := by
 refine Fun.w 5 Try.func66 fun w g0 _ => ?_
 refine callP (impl_within_f _ _ _).k ?_
 exact rfl
theorem impl_CtlFaults_f (x : VCtl) : Fun Try.prog 88 [A (rCtl x)] (RL 1 ((ctlFaults x).map dInt)) := by
 refine Fun.w 42 Try.func88 fun w g0 _ => ?_
 refine callP (impl_within_f _ _ _).k ?_
 refine cnd (fun hb => ?_) (fun hb => ?_)
 ·first | refine appPq ?_ | refine appP ?_
  refine callP (impl_within_f _ _ _).k ?_
  refine cnd (fun hb2 => ?_) (fun hb2 => ?_)
  ·first | refine appPq ?_ | refine appP ?_
   refine cnd (fun hg3 => ?_) (fun hg3 => ?_)
   ·refine cnd (fun hb3 => ?_) (fun hb3 => ?_)
    ·first | refine appPq ?_ | refine appP ?_
     refine cnd (fun hg3 => ?_) (fun hg3 => ?_)
     ·refine cnd (fun hb4 => ?_) (fun hb4 => ?_)
      ·first | refine appPq ?_ | refine appP ?_
       exact resL (by first | (simp_all [ctlFaults, elD, cellD]; done) | (simp only [ctlFaults, decide_eq_true_eq, ne_eq, *, if_true, if_false, not_true_eq_false, not_false_eq_true, and_true, and_false, true_and, false_and, Bool.true_eq_false, Bool.false_eq_true, and_self, eq_self, reduceCtorEq]; rfl))
      ·exact resL (by first | (simp_all [ctlFaults, elD, cellD]; done) | (simp only [ctlFaults, decide_eq_true_eq, ne_eq, *, if_true, if_false, not_true_eq_false, not_false_eq_true, and_true, and_false, true_and, false_and, Bool.true_eq_false, Bool.false_eq_true, and_self, eq_self, reduceCtorEq]; rfl))
     ·exact resL (by first | (simp_all [ctlFaults, elD, cellD]; done) | (simp only [ctlFaults, decide_eq_true_eq, ne_eq, *, if_true, if_false, not_true_eq_false, not_false_eq_true, and_true, and_false, true_and, false_and, Bool.true_eq_false, Bool.false_eq_true, and_self, eq_self, reduceCtorEq]; rfl))
    ·refine cnd (fun hg3 => ?_) (fun hg3 => ?_)
     ·refine cnd (fun hb5 => ?_) (fun hb5 => ?_)
      ·first | refine appPq ?_ | refine appP ?_
       exact resL (by first | (simp_all [ctlFaults, elD, cellD]; done) | (simp only [ctlFaults, decide_eq_true_eq, ne_eq, *, if_true, if_false, not_true_eq_false, not_false_eq_true, and_true, and_false, true_and, false_and, Bool.true_eq_false, Bool.false_eq_true, and_self, eq_self, reduceCtorEq]; rfl))
      ·exact resL (by first | (simp_all [ctlFaults, elD, cellD]; done) | (simp only [ctlFaults, decide_eq_true_eq, ne_eq, *, if_true, if_false, not_true_eq_false, not_false_eq_true, and_true, and_false, true_and, false_and, Bool.true_eq_false, Bool.false_eq_true, and_self, eq_self, reduceCtorEq]; rfl))
     ·exact resL (by first | (simp_all [ctlFaults, elD, cellD]; done) | (simp only [ctlFaults, decide_eq_true_eq, ne_eq, *, if_true, if_false, not_true_eq_false, not_false_eq_true, and_true, and_false, true_and, false_and, Bool.true_eq_false, Bool.false_eq_true, and_self, eq_self, reduceCtorEq]; rfl))
   ·refine cnd (fun hg3 => ?_) (fun hg3 => ?_)
    ·refine cnd (fun hb6 => ?_) (fun hb6 => ?_)
     ·first | refine appPq ?_ | refine appP ?_
      exact resL (by first | (simp_all [ctlFaults, elD, cellD]; done) | (simp only [ctlFaults, decide_eq_true_eq, ne_eq, *, if_true, if_false, not_true_eq_false, not_false_eq_true, and_true, and_false, true_and, false_and, Bool.true_eq_false, Bool.false_eq_true, and_self, eq_self, reduceCtorEq]; rfl))
     ·exact resL (by first | (simp_all [ctlFaults, elD, cellD]; done) | (simp only [ctlFaults, decide_eq_true_eq, ne_eq, *, if_true, if_false, not_true_eq_false, not_false_eq_true, and_true, and_false, true_and, false_and, Bool.true_eq_false, Bool.false_eq_true, and_self, eq_self, reduceCtorEq]; rfl))
    ·exact resL (by first | (simp_all [ctlFaults, elD, cellD]; done) | (simp only [ctlFaults, decide_eq_true_eq, ne_eq, *, if_true, if_false, not_true_eq_false, not_false_eq_true, and_true, and_false, true_and, false_and, Bool.true_eq_false, Bool.false_eq_true, and_self, eq_self, reduceCtorEq]; rfl))
  ·refine cnd (fun hg3 => ?_) (fun hg3 => ?_)
   ·refine cnd (fun hb7 => ?_) (fun hb7 => ?_)
    ·first | refine appPq ?_ | refine appP ?_
     refine cnd (fun hg3 => ?_) (fun hg3 => ?_)
     ·refine cnd (fun hb8 => ?_) (fun hb8 => ?_)
      ·first | refine appPq ?_ | refine appP ?_
       exact resL (by first | (simp_all [ctlFaults, elD, cellD]; done) | (simp only [ctlFaults, decide_eq_true_eq, ne_eq, *, if_true, if_false, not_true_eq_false, not_false_eq_true, and_true, and_false, true_and, false_and, Bool.true_eq_false, Bool.false_eq_true, and_self, eq_self, reduceCtorEq]; rfl))
      ·exact resL (by first | (simp_all [ctlFaults, elD, cellD]; done) | (simp only [ctlFaults, decide_eq_true_eq, ne_eq, *, if_true, if_false, not_true_eq_false, not_false_eq_true, and_true, and_false, true_and, false_and, Bool.true_eq_false, Bool.false_eq_true, and_self, eq_self, reduceCtorEq]; rfl))
     ·exact resL (by first | (simp_all [ctlFaults, elD, cellD]; done) | (simp only [ctlFaults, decide_eq_true_eq, ne_eq, *, if_true, if_false, not_true_eq_false, not_false_eq_true, and_true, and_false, true_and, false_and, Bool.true_eq_false, Bool.false_eq_true, and_self, eq_self, reduceCtorEq]; rfl))
    ·refine cnd (fun hg3 => ?_) (fun hg3 => ?_)
     ·refine cnd (fun hb9 => ?_) (fun hb9 => ?_)
      ·first | refine appPq ?_ | refine appP ?_
       exact resL (by first | (simp_all [ctlFaults, elD, cellD]; done) | (simp only [ctlFaults, decide_eq_true_eq, ne_eq, *, if_true, if_false, not_true_eq_false, not_false_eq_true, and_true, and_false, true_and, false_and, Bool.true_eq_false, Bool.false_eq_true, and_self, eq_self, reduceCtorEq]; rfl))
      ·exact resL (by first | (simp_all [ctlFaults, elD, cellD]; done) | (simp only [ctlFaults, decide_eq_true_eq, ne_eq, *, if_true, if_false, not_true_eq_false, not_false_eq_true, and_true, and_false, true_and, false_and, Bool.true_eq_false, Bool.false_eq_true, and_self, eq_self, reduceCtorEq]; rfl))
     ·exact resL (by first | (simp_all [ctlFaults, elD, cellD]; done) | (simp only [ctlFaults, decide_eq_true_eq, ne_eq, *, if_true, if_false, not_true_eq_false, not_false_eq_true, and_true, and_false, true_and, false_and, Bool.true_eq_false, Bool.false_eq_true, and_self, eq_self, reduceCtorEq]; rfl))
   ·refine cnd (fun hg3 => ?_) (fun hg3 => ?_)
    ·refine cnd (fun hb10 => ?_) (fun hb10 => ?_)
     ·first | refine appPq ?_ | refine appP ?_
      exact resL (by first | (simp_all [ctlFaults, elD, cellD]; done) | (simp only [ctlFaults, decide_eq_true_eq, ne_eq, *, if_true, if_false, not_true_eq_false, not_false_eq_true, and_true, and_false, true_and, false_and, Bool.true_eq_false, Bool.false_eq_true, and_self, eq_self, reduceCtorEq]; rfl))
     ·exact resL (by first | (simp_all [ctlFaults, elD, cellD]; done) | (simp only [ctlFaults, decide_eq_true_eq, ne_eq, *, if_true, if_false, not_true_eq_false, not_false_eq_true, and_true, and_false, true_and, false_and, Bool.true_eq_false, Bool.false_eq_true, and_self, eq_self, reduceCtorEq]; rfl))
    ·exact resL (by first | (simp_all [ctlFaults, elD, cellD]; done) | (simp only [ctlFaults, decide_eq_true_eq, ne_eq, *, if_true, if_false, not_true_eq_false, not_false_eq_true, and_true, and_false, true_and, false_and, Bool.true_eq_false, Bool.false_eq_true, and_self, eq_self, reduceCtorEq]; rfl))
 ·refine callP (impl_within_f _ _ _).k ?_
  refine cnd (fun hb11 => ?_) (fun hb11 => ?_)
  ·first | refine appPq ?_ | refine appP ?_
   refine cnd (fun hg3 => ?_) (fun hg3 => ?_)
   ·refine cnd (fun hb12 => ?_) (fun hb12 => ?_)
    ·first | refine appPq ?_ | refine appP ?_
     refine cnd (fun hg3 => ?_) (fun hg3 => ?_)
     ·refine cnd (fun hb13 => ?_) (fun hb13 => ?_)
      ·first | refine appPq ?_ | refine appP ?_
       exact resL (by first | (simp_all [ctlFaults, elD, cellD]; done) | (simp only [ctlFaults, decide_eq_true_eq, ne_eq, *, if_true, if_false, not_true_eq_false, not_false_eq_true, and_true, and_false, true_and, false_and, Bool.true_eq_false, Bool.false_eq_true, and_self, eq_self, reduceCtorEq]; rfl))
      ·exact resL (by first | (simp_all [ctlFaults, elD, cellD]; done) | (simp only [ctlFaults, decide_eq_true_eq, ne_eq, *, if_true, if_false, not_true_eq_false, not_false_eq_true, and_true, and_false, true_and, false_and, Bool.true_eq_false, Bool.false_eq_true, and_self, eq_self, reduceCtorEq]; rfl))
     ·exact resL (by first | (simp_all [ctlFaults, elD, cellD]; done) | (simp only [ctlFaults, decide_eq_true_eq, ne_eq, *, if_true, if_false, not_true_eq_false, not_false_eq_true, and_true, and_false, true_and, false_and, Bool.true_eq_false, Bool.false_eq_true, and_self, eq_self, reduceCtorEq]; rfl))
    ·refine cnd (fun hg3 => ?_) (fun hg3 => ?_)
     ·refine cnd (fun hb14 => ?_) (fun hb14 => ?_)
      ·first | refine appPq ?_ | refine appP ?_
       exact resL (by first | (simp_all [ctlFaults, elD, cellD]; done) | (simp only [ctlFaults, decide_eq_true_eq, ne_eq, *, if_true, if_false, not_true_eq_false, not_false_eq_true, and_true, and_false, true_and, false_and, Bool.true_eq_false, Bool.false_eq_true, and_self, eq_self, reduceCtorEq]; rfl))
      ·exact resL (by first | (simp_all [ctlFaults, elD, cellD]; done) | (simp only [ctlFaults, decide_eq_true_eq, ne_eq, *, if_true, if_false, not_true_eq_false, not_false_eq_true, and_true, and_false, true_and, false_and, Bool.true_eq_false, Bool.false_eq_true, and_self, eq_self, reduceCtorEq]; rfl))
     ·exact resL (by first | (simp_all [ctlFaults, elD, cellD]; done) | (simp only [ctlFaults, decide_eq_true_eq, ne_eq, *, if_true, if_false, not_true_eq_false, not_false_eq_true, and_true, and_false, true_and, false_and, Bool.true_eq_false, Bool.false_eq_true, and_self, eq_self, reduceCtorEq]; rfl))
   ·refine cnd (fun hg3 => ?_) (fun hg3 => ?_)
    ·refine cnd (fun hb15 => ?_) (fun hb15 => ?_)
     ·first | refine appPq ?_ | refine appP ?_
      exact resL (by first | (simp_all [ctlFaults, elD, cellD]; done) | (simp only [ctlFaults, decide_eq_true_eq, ne_eq, *, if_true, if_false, not_true_eq_false, not_false_eq_true, and_true, and_false, true_and, false_and, Bool.true_eq_false, Bool.false_eq_true, and_self, eq_self, reduceCtorEq]; rfl))
     ·exact resL (by first | (simp_all [ctlFaults, elD, cellD]; done) | (simp only [ctlFaults, decide_eq_true_eq, ne_eq, *, if_true, if_false, not_true_eq_false, not_false_eq_true, and_true, and_false, true_and, false_and, Bool.true_eq_false, Bool.false_eq_true, and_self, eq_self, reduceCtorEq]; rfl))
    ·exact resL (by first | (simp_all [ctlFaults, elD, cellD]; done) | (simp only [ctlFaults, decide_eq_true_eq, ne_eq, *, if_true, if_false, not_true_eq_false, not_false_eq_true, and_true, and_false, true_and, false_and, Bool.true_eq_false, Bool.false_eq_true, and_self, eq_self, reduceCtorEq]; rfl))
  ·refine cnd (fun hg3 => ?_) (fun hg3 => ?_)
   ·refine cnd (fun hb16 => ?_) (fun hb16 => ?_)
    ·first | refine appPq ?_ | refine appP ?_
     refine cnd (fun hg3 => ?_) (fun hg3 => ?_)
     ·refine cnd (fun hb17 => ?_) (fun hb17 => ?_)
      ·first | refine appPq ?_ | refine appP ?_
       exact resL (by first | (simp_all [ctlFaults, elD, cellD]; done) | (simp only [ctlFaults, decide_eq_true_eq, ne_eq, *, if_true, if_false, not_true_eq_false, not_false_eq_true, and_true, and_false, true_and, false_and, Bool.true_eq_false, Bool.false_eq_true, and_self, eq_self, reduceCtorEq]; rfl))
      ·exact resL (by first | (simp_all [ctlFaults, elD, cellD]; done) | (simp only [ctlFaults, decide_eq_true_eq, ne_eq, *, if_true, if_false, not_true_eq_false, not_false_eq_true, and_true, and_false, true_and, false_and, Bool.true_eq_false, Bool.false_eq_true, and_self, eq_self, reduceCtorEq]; rfl))
     ·exact resL (by first | (simp_all [ctlFaults, elD, cellD]; done) | (simp only [ctlFaults, decide_eq_true_eq, ne_eq, *, if_true, if_false, not_true_eq_false, not_false_eq_true, and_true, and_false, true_and, false_and, Bool.true_eq_false, Bool.false_eq_true, and_self, eq_self, reduceCtorEq]; rfl))
    ·refine cnd (fun hg3 => ?_) (fun hg3 => ?_)
     ·refine cnd (fun hb18 => ?_) (fun hb18 => ?_)
      ·first | refine appPq ?_ | refine appP ?_
       exact resL (by first | (simp_all [ctlFaults, elD, cellD]; done) | (simp only [ctlFaults, decide_eq_true_eq, ne_eq, *, if_true, if_false, not_true_eq_false, not_false_eq_true, and_true, and_false, true_and, false_and, Bool.true_eq_false, Bool.false_eq_true, and_self, eq_self, reduceCtorEq]; rfl))
      ·exact resL (by first | (simp_all [ctlFaults, elD, cellD]; done) | (simp only [ctlFaults, decide_eq_true_eq, ne_eq, *, if_true, if_false, not_true_eq_false, not_false_eq_true, and_true, and_false, true_and, false_and, Bool.true_eq_false, Bool.false_eq_true, and_self, eq_self, reduceCtorEq]; rfl))
     ·exact resL (by first | (simp_all [ctlFaults, elD, cellD]; done) | (simp only [ctlFaults, decide_eq_true_eq, ne_eq, *, if_true, if_false, not_true_eq_false, not_false_eq_true, and_true, and_false, true_and, false_and, Bool.true_eq_false, Bool.false_eq_true, and_self, eq_self, reduceCtorEq]; rfl))
   ·refine cnd (fun hg3 => ?_) (fun hg3 => ?_)
    ·refine cnd (fun hb19 => ?_) (fun hb19 => ?_)
     ·first | refine appPq ?_ | refine appP ?_
      exact resL (by first | (simp_all [ctlFaults, elD, cellD]; done) | (simp only [ctlFaults, decide_eq_true_eq, ne_eq, *, if_true, if_false, not_true_eq_false, not_false_eq_true, and_true, and_false, true_and, false_and, Bool.true_eq_false, Bool.false_eq_true, and_self, eq_self, reduceCtorEq]; rfl))
     ·exact resL (by first | (simp_all [ctlFaults, elD, cellD]; done) | (simp only [ctlFaults, decide_eq_true_eq, ne_eq, *, if_true, if_false, not_true_eq_false, not_false_eq_true, and_true, and_false, true_and, false_and, Bool.true_eq_false, Bool.false_eq_true, and_self, eq_self, reduceCtorEq]; rfl))
    ·exact resL (by first | (simp_all [ctlFaults, elD, cellD]; done) | (simp only [ctlFaults, decide_eq_true_eq, ne_eq, *, if_true, if_false, not_true_eq_false, not_false_eq_true, and_true, and_false, true_and, false_and, Bool.true_eq_false, Bool.false_eq_true, and_self, eq_self, reduceCtorEq]; rfl))
theorem impl_CtlOk_f (x : VCtl) : Fun Try.prog 80 [A (rCtl x)] (RV (.bool (ctlOk x))) := by
 refine Fun.w 7 Try.func80 fun w g0 _ => ?_
 refine callL (impl_CtlFaults_f _).k ?_
 refine len ?_
 exact resV (by first | (unfold ctlOk; refine congrArg Value.bool ?_; rw [Bool.eq_iff_iff]; simp))
theorem impl_ExitOk_f (x : VExit) : Fun Try.prog 81 [A (rExit x)] (RV (.bool (exitOk x))) := by
 refine Fun.w 47 Try.func81 fun w g0 _ => ?_
 refine cnd (fun hb => ?_) (fun hb => ?_)
 ·refine cnd (fun hg3 => ?_) (fun hg3 => ?_)
  ·refine cnd (fun hg8 => ?_) (fun hg8 => ?_)
   ·exact resV (by first | (cases x; simp_all [exitOk, eqVs, eqV]; done) | (cases x; simp_all [exitOk, eqVs, eqV]; omega) | (cases x; simp_all [exitOk, eqVs, eqV] <;> (try intros) <;> omega) | (cases x; simp_all [exitOk, eqVs, eqV] <;> rfl) | (cases x; simp_all [exitOk, eqVs, eqV]; rw [Bool.eq_iff_iff]; simp [and_assoc]))
   ·exact resV (by first | (cases x; simp_all [exitOk, eqVs, eqV]; done) | (cases x; simp_all [exitOk, eqVs, eqV]; omega) | (cases x; simp_all [exitOk, eqVs, eqV] <;> (try intros) <;> omega) | (cases x; simp_all [exitOk, eqVs, eqV] <;> rfl) | (cases x; simp_all [exitOk, eqVs, eqV]; rw [Bool.eq_iff_iff]; simp [and_assoc]))
  ·exact resV (by first | (cases x; simp_all [exitOk, eqVs, eqV]; done) | (cases x; simp_all [exitOk, eqVs, eqV]; omega) | (cases x; simp_all [exitOk, eqVs, eqV] <;> (try intros) <;> omega) | (cases x; simp_all [exitOk, eqVs, eqV] <;> rfl) | (cases x; simp_all [exitOk, eqVs, eqV]; rw [Bool.eq_iff_iff]; simp [and_assoc]))
 ·refine cnd (fun hb2 => ?_) (fun hb2 => ?_)
  ·refine cnd (fun hg3 => ?_) (fun hg3 => ?_)
   ·refine cnd (fun hg8 => ?_) (fun hg8 => ?_)
    ·exact resV (by first | (cases x; simp_all [exitOk, eqVs, eqV]; done) | (cases x; simp_all [exitOk, eqVs, eqV]; omega) | (cases x; simp_all [exitOk, eqVs, eqV] <;> (try intros) <;> omega) | (cases x; simp_all [exitOk, eqVs, eqV] <;> rfl) | (cases x; simp_all [exitOk, eqVs, eqV]; rw [Bool.eq_iff_iff]; simp [and_assoc]))
    ·exact resV (by first | (cases x; simp_all [exitOk, eqVs, eqV]; done) | (cases x; simp_all [exitOk, eqVs, eqV]; omega) | (cases x; simp_all [exitOk, eqVs, eqV] <;> (try intros) <;> omega) | (cases x; simp_all [exitOk, eqVs, eqV] <;> rfl) | (cases x; simp_all [exitOk, eqVs, eqV]; rw [Bool.eq_iff_iff]; simp [and_assoc]))
   ·exact resV (by first | (cases x; simp_all [exitOk, eqVs, eqV]; done) | (cases x; simp_all [exitOk, eqVs, eqV]; omega) | (cases x; simp_all [exitOk, eqVs, eqV] <;> (try intros) <;> omega) | (cases x; simp_all [exitOk, eqVs, eqV] <;> rfl) | (cases x; simp_all [exitOk, eqVs, eqV]; rw [Bool.eq_iff_iff]; simp [and_assoc]))
  ·refine cnd (fun hb3 => ?_) (fun hb3 => ?_)
   ·refine callP (impl_within_f _ _ _).k ?_
    refine cnd (fun hg3 => ?_) (fun hg3 => ?_)
    ·exact resV (by first | (cases x; simp_all [exitOk, eqVs, eqV]; done) | (cases x; simp_all [exitOk, eqVs, eqV]; omega) | (cases x; simp_all [exitOk, eqVs, eqV] <;> (try intros) <;> omega) | (cases x; simp_all [exitOk, eqVs, eqV] <;> rfl) | (cases x; simp_all [exitOk, eqVs, eqV]; rw [Bool.eq_iff_iff]; simp [and_assoc]))
    ·exact resV (by first | (cases x; simp_all [exitOk, eqVs, eqV]; done) | (cases x; simp_all [exitOk, eqVs, eqV]; omega) | (cases x; simp_all [exitOk, eqVs, eqV] <;> (try intros) <;> omega) | (cases x; simp_all [exitOk, eqVs, eqV] <;> rfl) | (cases x; simp_all [exitOk, eqVs, eqV]; rw [Bool.eq_iff_iff]; simp [and_assoc]))
   ·refine cnd (fun hb4 => ?_) (fun hb4 => ?_)
    ·refine callP (impl_within_f _ _ _).k ?_
     refine cnd (fun hg3 => ?_) (fun hg3 => ?_)
     ·refine cnd (fun hg8 => ?_) (fun hg8 => ?_)
      ·exact resV (by first | (cases x; simp_all [exitOk, eqVs, eqV]; done) | (cases x; simp_all [exitOk, eqVs, eqV]; omega) | (cases x; simp_all [exitOk, eqVs, eqV] <;> (try intros) <;> omega) | (cases x; simp_all [exitOk, eqVs, eqV] <;> rfl) | (cases x; simp_all [exitOk, eqVs, eqV]; rw [Bool.eq_iff_iff]; simp [and_assoc]))
      ·exact resV (by first | (cases x; simp_all [exitOk, eqVs, eqV]; done) | (cases x; simp_all [exitOk, eqVs, eqV]; omega) | (cases x; simp_all [exitOk, eqVs, eqV] <;> (try intros) <;> omega) | (cases x; simp_all [exitOk, eqVs, eqV] <;> rfl) | (cases x; simp_all [exitOk, eqVs, eqV]; rw [Bool.eq_iff_iff]; simp [and_assoc]))
     ·exact resV (by first | (cases x; simp_all [exitOk, eqVs, eqV]; done) | (cases x; simp_all [exitOk, eqVs, eqV]; omega) | (cases x; simp_all [exitOk, eqVs, eqV] <;> (try intros) <;> omega) | (cases x; simp_all [exitOk, eqVs, eqV] <;> rfl) | (cases x; simp_all [exitOk, eqVs, eqV]; rw [Bool.eq_iff_iff]; simp [and_assoc]))
    ·refine cnd (fun hb5 => ?_) (fun hb5 => ?_)
     ·refine callP (impl_within_f _ _ _).k ?_
      refine cnd (fun hg3 => ?_) (fun hg3 => ?_)
      ·refine cnd (fun hg8 => ?_) (fun hg8 => ?_)
       ·exact resV (by first | (cases x; simp_all [exitOk, eqVs, eqV]; done) | (cases x; simp_all [exitOk, eqVs, eqV]; omega) | (cases x; simp_all [exitOk, eqVs, eqV] <;> (try intros) <;> omega) | (cases x; simp_all [exitOk, eqVs, eqV] <;> rfl) | (cases x; simp_all [exitOk, eqVs, eqV]; rw [Bool.eq_iff_iff]; simp [and_assoc]))
       ·exact resV (by first | (cases x; simp_all [exitOk, eqVs, eqV]; done) | (cases x; simp_all [exitOk, eqVs, eqV]; omega) | (cases x; simp_all [exitOk, eqVs, eqV] <;> (try intros) <;> omega) | (cases x; simp_all [exitOk, eqVs, eqV] <;> rfl) | (cases x; simp_all [exitOk, eqVs, eqV]; rw [Bool.eq_iff_iff]; simp [and_assoc]))
      ·exact resV (by first | (cases x; simp_all [exitOk, eqVs, eqV]; done) | (cases x; simp_all [exitOk, eqVs, eqV]; omega) | (cases x; simp_all [exitOk, eqVs, eqV] <;> (try intros) <;> omega) | (cases x; simp_all [exitOk, eqVs, eqV] <;> rfl) | (cases x; simp_all [exitOk, eqVs, eqV]; rw [Bool.eq_iff_iff]; simp [and_assoc]))
     ·exact resV (by first | (cases x; simp_all [exitOk, eqVs, eqV]; done) | (cases x; simp_all [exitOk, eqVs, eqV]; omega) | (cases x; simp_all [exitOk, eqVs, eqV] <;> (try intros) <;> omega) | (cases x; simp_all [exitOk, eqVs, eqV] <;> rfl) | (cases x; simp_all [exitOk, eqVs, eqV]; rw [Bool.eq_iff_iff]; simp [and_assoc]))
end Go.Proofs.Ytcmoifejjodgcaa.T

