
import Derived.Test.YteelmdpahpggkaaGreatNcp
namespace Go.Proofs.YteelmdpahpggkaaGreat.T
open Go
set_option linter.unusedVariables false
set_option linter.unusedSimpArgs false
set_option maxRecDepth 100000
set_option maxHeartbeats 1000000
theorem insAt_in {p : List VIns} {n : Int} {y : VIns} (h : 0 ≤ n) (hy : p[n.toNat]? = some y) : insAt p n = y := by unfold insAt; rw [at_in h hy]; rfl
theorem insAt_out {p : List VIns} {n : Int} (h : ¬ (0 ≤ n ∧ n < p.length)) : insAt p n = ⟨7, 0⟩ := by unfold insAt; rw [at_out h]; rfl
theorem spec_WithCell_f (m : List (List Int)) (p : Int) (c : Int) (v : Int) [Q (SmIntSS m)] : Fun Tryz.prog 320 [L 1 (m.map dIntS), I p, I c, I v] (RL 1 ((withCell m p c v).map dIntS)) := by
 refine Fun.w 28 Tryz.func320 fun w g0 hM => ?_
 have hl0 := hM.1.map
 refine callL (spec_l04Copy_f _).k ?_
 refine callP (spec_l04Has_f _ _ _).k ?_
 refine cnd (fun hg4 => ?_) (fun hg4 => ?_)
 ·refine callP (spec_l01In_f _ _ _).k ?_
  refine cnd (fun hb => ?_) (fun hb => ?_)
  ·obtain ⟨r, hp0, hr, hr2, hc0, hc1⟩ := hasCell_yes (by assumption)
   have hp1 := (List.getElem?_eq_some_iff.1 hr).1
   first | refine ixm (by assumption) ?_ | refine bnd ?_ | refine bndi ?_ | refine ixkq (fun y22 hy22 qy22 ly22 => ?_) | refine ixiq (fun y22 hy22 qy22 ly22 => ?_)
   first | refine ixs ?_ | refine ixo (by assumption) ?_ | refine ixoq (fun z1 hz1 qz1 lz1 => ?_) | skip
   first | refine ixs ?_ | refine ixo (by assumption) ?_ | refine ixoq (fun z2 hz2 qz2 lz2 => ?_) | skip
   first | refine ixm (by assumption) ?_ | refine bnd ?_ | refine bndi ?_ | refine ixkq (fun y26 hy26 qy26 ly26 => ?_) | refine ixiq (fun y26 hy26 qy26 ly26 => ?_)
   first | refine ixs ?_ | refine ixo (by assumption) ?_ | refine ixoq (fun z3 hz3 qz3 lz3 => ?_) | skip
   first | refine ixs ?_ | refine ixo (by assumption) ?_ | refine ixoq (fun z4 hz4 qz4 lz4 => ?_) | skip
   exact (by first | (rw [withCell_no (by first | exact .inl (by assumption) | exact .inr (by omega) | exact .inl (hasCell_no (by omega)) | (refine .inl ?_; rw [hasCell_in (by omega) (by assumption)]; exact decide_eq_false (by omega)))]; rfl) | (rw [withCell_yes (by omega) (by assumption) (by omega) (by omega)]; simp only [List.map_set, dIntS]; rfl))
  ·exact (by first | (rw [withCell_no (by first | exact .inl (by assumption) | exact .inr (by omega) | exact .inl (hasCell_no (by omega)) | (refine .inl ?_; rw [hasCell_in (by omega) (by assumption)]; exact decide_eq_false (by omega)))]; rfl) | (rw [withCell_yes (by omega) (by assumption) (by omega) (by omega)]; simp only [List.map_set, dIntS]; rfl))
 ·exact (by first | (rw [withCell_no (by first | exact .inl (by assumption) | exact .inr (by omega) | exact .inl (hasCell_no (by omega)) | (refine .inl ?_; rw [hasCell_in (by omega) (by assumption)]; exact decide_eq_false (by omega)))]; rfl) | (rw [withCell_yes (by omega) (by assumption) (by omega) (by omega)]; simp only [List.map_set, dIntS]; rfl))
theorem impl_WithCell_f (m : List (List Int)) (p : Int) (c : Int) (v : Int) [Q (SmIntSS m)] : Fun Tryz.prog 370 [L 1 (m.map dIntS), I p, I c, I v] (RL 1 ((withCell m p c v).map dIntS)) := by
 refine Fun.w 37 Tryz.func370 fun w g0 hM => ?_
 have hl0 := hM.1.map
 refine callL (impl_copyMem_f _).k ?_
 refine len ?_
 refine callP (impl_has_f _ _).k ?_
 refine cnd (fun hg4 => ?_) (fun hg4 => ?_)
 ·first | refine ixm (by assumption) ?_ | refine bnd ?_ | refine bndi ?_ | refine ixkq (fun y20 hy20 qy20 ly20 => ?_) | refine ixiq (fun y20 hy20 qy20 ly20 => ?_)
  first | refine ixs ?_ | refine ixo (by assumption) ?_ | refine ixoq (fun z1 hz1 qz1 lz1 => ?_) | skip
  first | refine ixs ?_ | refine ixo (by assumption) ?_ | refine ixoq (fun z2 hz2 qz2 lz2 => ?_) | skip
  refine len ?_
  refine callP (impl_has_f _ _).k ?_
  refine cnd (fun hg13 => ?_) (fun hg13 => ?_)
  ·refine callP (impl_within_f _ _ _).k ?_
   refine cnd (fun hb => ?_) (fun hb => ?_)
   ·first | refine ixm (by assumption) ?_ | refine bnd ?_ | refine bndi ?_ | refine ixkq (fun y31 hy31 qy31 ly31 => ?_) | refine ixiq (fun y31 hy31 qy31 ly31 => ?_)
    first | refine ixs ?_ | refine ixo (by assumption) ?_ | refine ixoq (fun z3 hz3 qz3 lz3 => ?_) | skip
    first | refine ixs ?_ | refine ixo (by assumption) ?_ | refine ixoq (fun z4 hz4 qz4 lz4 => ?_) | skip
    first | refine ixm (by assumption) ?_ | refine bnd ?_ | refine bndi ?_ | refine ixkq (fun y35 hy35 qy35 ly35 => ?_) | refine ixiq (fun y35 hy35 qy35 ly35 => ?_)
    first | refine ixs ?_ | refine ixo (by assumption) ?_ | refine ixoq (fun z5 hz5 qz5 lz5 => ?_) | skip
    first | refine ixs ?_ | refine ixo (by assumption) ?_ | refine ixoq (fun z6 hz6 qz6 lz6 => ?_) | skip
    exact (by first | (rw [withCell_no (by first | exact .inl (by assumption) | exact .inr (by omega) | exact .inl (hasCell_no (by omega)) | (refine .inl ?_; rw [hasCell_in (by omega) (by assumption)]; exact decide_eq_false (by omega)))]; rfl) | (rw [withCell_yes (by omega) (by assumption) (by omega) (by omega)]; simp only [List.map_set, dIntS]; rfl))
   ·exact (by first | (rw [withCell_no (by first | exact .inl (by assumption) | exact .inr (by omega) | exact .inl (hasCell_no (by omega)) | (refine .inl ?_; rw [hasCell_in (by omega) (by assumption)]; exact decide_eq_false (by omega)))]; rfl) | (rw [withCell_yes (by omega) (by assumption) (by omega) (by omega)]; simp only [List.map_set, dIntS]; rfl))
  ·exact (by first | (rw [withCell_no (by first | exact .inl (by assumption) | exact .inr (by omega) | exact .inl (hasCell_no (by omega)) | (refine .inl ?_; rw [hasCell_in (by omega) (by assumption)]; exact decide_eq_false (by omega)))]; rfl) | (rw [withCell_yes (by omega) (by assumption) (by omega) (by omega)]; simp only [List.map_set, dIntS]; rfl))
 ·exact (by first | (rw [withCell_no (by first | exact .inl (by assumption) | exact .inr (by omega) | exact .inl (hasCell_no (by omega)) | (refine .inl ?_; rw [hasCell_in (by omega) (by assumption)]; exact decide_eq_false (by omega)))]; rfl) | (rw [withCell_yes (by omega) (by assumption) (by omega) (by omega)]; simp only [List.map_set, dIntS]; rfl))
theorem spec_InsAt_f (p : List VIns) (n : Int) : Fun Tryz.prog 327 [L 2 (p.map dIns), I n] (RP (A (rIns (insAt p n)))) := by
 refine Fun.w 16 Tryz.func327 fun w g0 hM => ?_
 have hl0 := hM.1.map
 refine len ?_
 refine rng ?_
 refine callP (spec_l01In_f _ _ _).k ?_
 refine cnd (fun hb => ?_) (fun hb => ?_)
 ·exact (by first | (rw [insAt_out (by omega)]; rfl) | (rw [insAt_in (by omega) (by assumption)]; rfl))
 ·first | refine ixm (by assumption) ?_ | refine bnd ?_ | refine bndi ?_ | refine ixkq (fun y14 hy14 qy14 ly14 => ?_) | refine ixiq (fun y14 hy14 qy14 ly14 => ?_)
  first | refine ixs ?_ | refine ixo (by assumption) ?_ | refine ixoq (fun z1 hz1 qz1 lz1 => ?_) | skip
  exact (by first | (rw [insAt_out (by omega)]; rfl) | (rw [insAt_in (by omega) (by assumption)]; rfl))
theorem impl_InsAt_f (p : List VIns) (n : Int) : Fun Tryz.prog 415 [L 2 (p.map dIns), I n] (RP (A (rIns (insAt p n)))) := by
 refine Fun.w 15 Tryz.func415 fun w g0 hM => ?_
 have hl0 := hM.1.map
 refine len ?_
 refine callP (impl_has_f _ _).k ?_
 refine cnd (fun hb => ?_) (fun hb => ?_)
 ·exact (by first | (rw [insAt_out (by omega)]; rfl) | (rw [insAt_in (by omega) (by assumption)]; rfl))
 ·first | refine ixm (by assumption) ?_ | refine bnd ?_ | refine bndi ?_ | refine ixkq (fun y13 hy13 qy13 ly13 => ?_) | refine ixiq (fun y13 hy13 qy13 ly13 => ?_)
  first | refine ixs ?_ | refine ixo (by assumption) ?_ | refine ixoq (fun z1 hz1 qz1 lz1 => ?_) | skip
  exact (by first | (rw [insAt_out (by omega)]; rfl) | (rw [insAt_in (by omega) (by assumption)]; rfl))
theorem spec_InsOk_f (x : VIns) : Fun Tryz.prog 395 [A (rIns x)] (RV (.bool (insOk x))) := by
 refine Fun.w 29 Tryz.func395 fun w g0 _ => ?_
 refine cnd (fun hb => ?_) (fun hb => ?_)
 ·refine callP (spec_l01In_f _ _ _).k ?_
  exact resV (by first | (cases x; (simp_all [insOk]; done)) | (cases x; (simp_all [insOk]; omega)) | (cases x; (simp_all [insOk] <;> (try intros) <;> omega)) | (cases x; (refine congrArg Value.bool ?_; rw [Bool.eq_iff_iff]; simp [insOk]; omega)) | (cases x; (simp_all [insOk] <;> rfl)))
 ·refine cnd (fun hb2 => ?_) (fun hb2 => ?_)
  ·refine callP (spec_l01In_f _ _ _).k ?_
   exact resV (by first | (cases x; (simp_all [insOk]; done)) | (cases x; (simp_all [insOk]; omega)) | (cases x; (simp_all [insOk] <;> (try intros) <;> omega)) | (cases x; (refine congrArg Value.bool ?_; rw [Bool.eq_iff_iff]; simp [insOk]; omega)) | (cases x; (simp_all [insOk] <;> rfl)))
  ·refine cnd (fun hb3 => ?_) (fun hb3 => ?_)
   ·refine callP (spec_l01In_f _ _ _).k ?_
    exact resV (by first | (cases x; (simp_all [insOk]; done)) | (cases x; (simp_all [insOk]; omega)) | (cases x; (simp_all [insOk] <;> (try intros) <;> omega)) | (cases x; (refine congrArg Value.bool ?_; rw [Bool.eq_iff_iff]; simp [insOk]; omega)) | (cases x; (simp_all [insOk] <;> rfl)))
   ·refine cnd (fun hb4 => ?_) (fun hb4 => ?_)
    ·refine callP (spec_l01In_f _ _ _).k ?_
     exact resV (by first | (cases x; (simp_all [insOk]; done)) | (cases x; (simp_all [insOk]; omega)) | (cases x; (simp_all [insOk] <;> (try intros) <;> omega)) | (cases x; (refine congrArg Value.bool ?_; rw [Bool.eq_iff_iff]; simp [insOk]; omega)) | (cases x; (simp_all [insOk] <;> rfl)))
    ·refine cnd (fun hb5 => ?_) (fun hb5 => ?_)
     ·refine callP (spec_l01In_f _ _ _).k ?_
      exact resV (by first | (cases x; (simp_all [insOk]; done)) | (cases x; (simp_all [insOk]; omega)) | (cases x; (simp_all [insOk] <;> (try intros) <;> omega)) | (cases x; (refine congrArg Value.bool ?_; rw [Bool.eq_iff_iff]; simp [insOk]; omega)) | (cases x; (simp_all [insOk] <;> rfl)))
     ·refine cnd (fun hb6 => ?_) (fun hb6 => ?_)
      ·refine callP (spec_l01In_f _ _ _).k ?_
       exact resV (by first | (cases x; (simp_all [insOk]; done)) | (cases x; (simp_all [insOk]; omega)) | (cases x; (simp_all [insOk] <;> (try intros) <;> omega)) | (cases x; (refine congrArg Value.bool ?_; rw [Bool.eq_iff_iff]; simp [insOk]; omega)) | (cases x; (simp_all [insOk] <;> rfl)))
      ·refine cnd (fun hb7 => ?_) (fun hb7 => ?_)
       ·exact resV (by first | (cases x; (simp_all [insOk]; done)) | (cases x; (simp_all [insOk]; omega)) | (cases x; (simp_all [insOk] <;> (try intros) <;> omega)) | (cases x; (refine congrArg Value.bool ?_; rw [Bool.eq_iff_iff]; simp [insOk]; omega)) | (cases x; (simp_all [insOk] <;> rfl)))
       ·refine cnd (fun hb8 => ?_) (fun hb8 => ?_)
        ·refine callP (spec_l01In_f _ _ _).k ?_
         exact resV (by first | (cases x; (simp_all [insOk]; done)) | (cases x; (simp_all [insOk]; omega)) | (cases x; (simp_all [insOk] <;> (try intros) <;> omega)) | (cases x; (refine congrArg Value.bool ?_; rw [Bool.eq_iff_iff]; simp [insOk]; omega)) | (cases x; (simp_all [insOk] <;> rfl)))
        ·exact resV (by first | (cases x; (simp_all [insOk]; done)) | (cases x; (simp_all [insOk]; omega)) | (cases x; (simp_all [insOk] <;> (try intros) <;> omega)) | (cases x; (refine congrArg Value.bool ?_; rw [Bool.eq_iff_iff]; simp [insOk]; omega)) | (cases x; (simp_all [insOk] <;> rfl)))
theorem impl_InsOk_f (x : VIns) : Fun Tryz.prog 397 [A (rIns x)] (RV (.bool (insOk x))) := by
 refine Fun.w 29 Tryz.func397 fun w g0 _ => ?_
 refine cnd (fun hb => ?_) (fun hb => ?_)
 ·refine callP (impl_within_f _ _ _).k ?_
  exact resV (by first | (cases x; (simp_all [insOk]; done)) | (cases x; (simp_all [insOk]; omega)) | (cases x; (simp_all [insOk] <;> (try intros) <;> omega)) | (cases x; (refine congrArg Value.bool ?_; rw [Bool.eq_iff_iff]; simp [insOk]; omega)) | (cases x; (simp_all [insOk] <;> rfl)))
 ·refine cnd (fun hb2 => ?_) (fun hb2 => ?_)
  ·refine callP (impl_within_f _ _ _).k ?_
   exact resV (by first | (cases x; (simp_all [insOk]; done)) | (cases x; (simp_all [insOk]; omega)) | (cases x; (simp_all [insOk] <;> (try intros) <;> omega)) | (cases x; (refine congrArg Value.bool ?_; rw [Bool.eq_iff_iff]; simp [insOk]; omega)) | (cases x; (simp_all [insOk] <;> rfl)))
  ·refine cnd (fun hb3 => ?_) (fun hb3 => ?_)
   ·refine callP (impl_within_f _ _ _).k ?_
    exact resV (by first | (cases x; (simp_all [insOk]; done)) | (cases x; (simp_all [insOk]; omega)) | (cases x; (simp_all [insOk] <;> (try intros) <;> omega)) | (cases x; (refine congrArg Value.bool ?_; rw [Bool.eq_iff_iff]; simp [insOk]; omega)) | (cases x; (simp_all [insOk] <;> rfl)))
   ·refine cnd (fun hb4 => ?_) (fun hb4 => ?_)
    ·refine callP (impl_within_f _ _ _).k ?_
     exact resV (by first | (cases x; (simp_all [insOk]; done)) | (cases x; (simp_all [insOk]; omega)) | (cases x; (simp_all [insOk] <;> (try intros) <;> omega)) | (cases x; (refine congrArg Value.bool ?_; rw [Bool.eq_iff_iff]; simp [insOk]; omega)) | (cases x; (simp_all [insOk] <;> rfl)))
    ·refine cnd (fun hb5 => ?_) (fun hb5 => ?_)
     ·refine callP (impl_within_f _ _ _).k ?_
      exact resV (by first | (cases x; (simp_all [insOk]; done)) | (cases x; (simp_all [insOk]; omega)) | (cases x; (simp_all [insOk] <;> (try intros) <;> omega)) | (cases x; (refine congrArg Value.bool ?_; rw [Bool.eq_iff_iff]; simp [insOk]; omega)) | (cases x; (simp_all [insOk] <;> rfl)))
     ·refine cnd (fun hb6 => ?_) (fun hb6 => ?_)
      ·refine callP (impl_within_f _ _ _).k ?_
       exact resV (by first | (cases x; (simp_all [insOk]; done)) | (cases x; (simp_all [insOk]; omega)) | (cases x; (simp_all [insOk] <;> (try intros) <;> omega)) | (cases x; (refine congrArg Value.bool ?_; rw [Bool.eq_iff_iff]; simp [insOk]; omega)) | (cases x; (simp_all [insOk] <;> rfl)))
      ·refine cnd (fun hb7 => ?_) (fun hb7 => ?_)
       ·exact resV (by first | (cases x; (simp_all [insOk]; done)) | (cases x; (simp_all [insOk]; omega)) | (cases x; (simp_all [insOk] <;> (try intros) <;> omega)) | (cases x; (refine congrArg Value.bool ?_; rw [Bool.eq_iff_iff]; simp [insOk]; omega)) | (cases x; (simp_all [insOk] <;> rfl)))
       ·refine cnd (fun hb8 => ?_) (fun hb8 => ?_)
        ·refine callP (impl_within_f _ _ _).k ?_
         exact resV (by first | (cases x; (simp_all [insOk]; done)) | (cases x; (simp_all [insOk]; omega)) | (cases x; (simp_all [insOk] <;> (try intros) <;> omega)) | (cases x; (refine congrArg Value.bool ?_; rw [Bool.eq_iff_iff]; simp [insOk]; omega)) | (cases x; (simp_all [insOk] <;> rfl)))
        ·exact resV (by first | (cases x; (simp_all [insOk]; done)) | (cases x; (simp_all [insOk]; omega)) | (cases x; (simp_all [insOk] <;> (try intros) <;> omega)) | (cases x; (refine congrArg Value.bool ?_; rw [Bool.eq_iff_iff]; simp [insOk]; omega)) | (cases x; (simp_all [insOk] <;> rfl)))
theorem spec_ProgOk_f (p : List VIns) : Fun Tryz.prog 291 [L 2 (p.map dIns)] (RV (.bool (progOk p))) := by
 refine Fun.w 19 Tryz.func291 fun w g0 hM => ?_
 have hl0 := hM.1.map
 refine loopA [0, 16, 17, 18] [] [] (fun (i : Nat) => [.set 3 (I i)]) (fun (i : Nat) => []) (fun (i : Nat) => (i ≤ p.length) ∧ ((p.take i).all insOk = true)) (fun (i : Nat) => p.length - i) (0) (⟨Nat.zero_le _, rfl⟩) ?_
 refine ⟨hda, fun i hyp N1 hN1 => ?_⟩
 have hyp : (i ≤ p.length) ∧ ((p.take i).all insOk = true) := hyp
 have ha := all_dec hyp.2
 refine len ?_
 refine cnd (fun hb => ?_) (fun hb => ?_)
 ·first | refine ixm (by assumption) ?_ | refine bnd ?_ | refine bndi ?_ | refine ixkq (fun y12 hy12 qy12 ly12 => ?_) | refine ixiq (fun y12 hy12 qy12 ly12 => ?_)
  first | refine ixs ?_ | refine ixo (by assumption) ?_ | refine ixoq (fun z1 hz1 qz1 lz1 => ?_) | skip
  refine callP (spec_InsOk_f _).k ?_
  refine cnd (fun hb2 => ?_) (fun hb2 => ?_)
  ·refine hN1 _ _ _ ?_
   exact resV (by first | (unfold progOk; rw [ha.1 _ (by assumption) (by first | assumption | exact decide_eq_false (by omega) | exact decide_eq_true (by omega))]; rfl) | (unfold progOk; rw [ha.2 (by omega)]; first | rfl | (simp; done) | (simp; rfl) | (rw [Value.bool.injEq, Bool.eq_iff_iff]; simp; omega)))
  ·refine rng ?_
   refine hN1 _ _ _ ?_
   refine nxa (i + 1) (⟨by omega, all_next hyp.2 (by assumption) (by first | assumption | exact decide_eq_false (by omega) | exact decide_eq_true (by omega))⟩)
 ·refine hN1 _ _ _ ?_
  refine len ?_
  refine callP (spec_l01In_f _ _ _).k ?_
  exact resV (by first | (unfold progOk; rw [ha.1 _ (by assumption) (by first | assumption | exact decide_eq_false (by omega) | exact decide_eq_true (by omega))]; rfl) | (unfold progOk; rw [ha.2 (by omega)]; first | rfl | (simp; done) | (simp; rfl) | (rw [Value.bool.injEq, Bool.eq_iff_iff]; simp; omega)))
theorem impl_ProgOk_f (p : List VIns) : Fun Tryz.prog 298 [L 2 (p.map dIns)] (RV (.bool (progOk p))) := by
 refine Fun.w 18 Tryz.func298 fun w g0 hM => ?_
 have hl0 := hM.1.map
 refine len ?_
 refine loopA [0, 5, 6, 15, 16, 17] [] [] (fun (i : Nat) => [.set 7 (I i)]) (fun (i : Nat) => []) (fun (i : Nat) => (i ≤ p.length) ∧ ((p.take i).all insOk = true)) (fun (i : Nat) => p.length - i) (0) (⟨Nat.zero_le _, rfl⟩) ?_
 refine ⟨hda, fun i hyp N1 hN1 => ?_⟩
 have hyp : (i ≤ p.length) ∧ ((p.take i).all insOk = true) := hyp
 have ha := all_dec hyp.2
 refine cnd (fun hb => ?_) (fun hb => ?_)
 ·first | refine ixm (by assumption) ?_ | refine bnd ?_ | refine bndi ?_ | refine ixkq (fun y9 hy9 qy9 ly9 => ?_) | refine ixiq (fun y9 hy9 qy9 ly9 => ?_)
  first | refine ixs ?_ | refine ixo (by assumption) ?_ | refine ixoq (fun z1 hz1 qz1 lz1 => ?_) | skip
  refine callP (impl_InsOk_f _).k ?_
  refine cnd (fun hb2 => ?_) (fun hb2 => ?_)
  ·refine hN1 _ _ _ ?_
   exact resV (by first | (unfold progOk; rw [ha.1 _ (by assumption) (by first | assumption | exact decide_eq_false (by omega) | exact decide_eq_true (by omega))]; rfl) | (unfold progOk; rw [ha.2 (by omega)]; first | rfl | (simp; done) | (simp; rfl) | (rw [Value.bool.injEq, Bool.eq_iff_iff]; simp; omega)))
  ·refine rng ?_
   refine hN1 _ _ _ ?_
   refine nxa (i + 1) (⟨by omega, all_next hyp.2 (by assumption) (by first | assumption | exact decide_eq_false (by omega) | exact decide_eq_true (by omega))⟩)
 ·refine hN1 _ _ _ ?_
  refine len ?_
  refine callP (impl_within_f _ _ _).k ?_
  exact resV (by first | (unfold progOk; rw [ha.1 _ (by assumption) (by first | assumption | exact decide_eq_false (by omega) | exact decide_eq_true (by omega))]; rfl) | (unfold progOk; rw [ha.2 (by omega)]; first | rfl | (simp; done) | (simp; rfl) | (rw [Value.bool.injEq, Bool.eq_iff_iff]; simp; omega)))
theorem spec_PendOk_f (p : Int) : Fun Tryz.prog 198 [I p] (RV (.bool (pendOk p))) := by
 refine Fun.w 5 Tryz.func198 fun w g0 _ => ?_
 refine callP (spec_l01In_f _ _ _).k ?_
 exact rfl
theorem impl_PendOk_f (p : Int) : Fun Tryz.prog 207 [I p] (RV (.bool (pendOk p))) := by
 refine Fun.w 5 Tryz.func207 fun w g0 _ => ?_
 refine callP (impl_within_f _ _ _).k ?_
 exact rfl
theorem spec_CtlFaults_f (x : VCtl) : Fun Tryz.prog 396 [A (rCtl x)] (RL 1 ((ctlFaults x).map dInt)) := by
 refine Fun.w 42 Tryz.func396 fun w g0 _ => ?_
 refine callP (spec_l01In_f _ _ _).k ?_
 refine cnd (fun hb => ?_) (fun hb => ?_)
 ·first | refine appPq ?_ | refine appP ?_
  refine callP (spec_l01In_f _ _ _).k ?_
  refine cnd (fun hb2 => ?_) (fun hb2 => ?_)
  ·first | refine appPq ?_ | refine appP ?_
   refine cnd (fun hg3 => ?_) (fun hg3 => ?_)
   ·refine cnd (fun hb3 => ?_) (fun hb3 => ?_)
    ·first | refine appPq ?_ | refine appP ?_
     refine cnd (fun hg3 => ?_) (fun hg3 => ?_)
     ·refine cnd (fun hb4 => ?_) (fun hb4 => ?_)
      ·first | refine appPq ?_ | refine appP ?_
       exact resL (by first | (simp_all [ctlFaults, elD, cellD]; done) | (simp only [ctlFaults, decide_eq_true_eq, ne_eq, *, if_true, if_false, not_true_eq_false, not_false_eq_true, and_true, and_false, true_and, false_and, Bool.true_eq_false, Bool.false_eq_true, and_self, eq_self, reduceCtorEq]; rfl))
      ·exact resL (by first | (simp_all [ctlFaults, elD, cellD]; done) | (simp only [ctlFaults, decide_eq_true_eq, ne_eq, *, if_true, if_false, not_true_eq_false, not_false_eq_true, and_true, and_false, true_and, false_and, Bool.true_eq_false, Bool.false_eq_true, and_self, eq_self, reduceCtorEq]; rfl))
     ·exact resL (by first | (simp_all [ctlFaults, elD, cellD]; done) | (simp only [ctlFaults, decide_eq_true_eq, ne_eq, *, if_true, if_false, not_true_eq_false, not_false_eq_true, and_true, and_false, true_and, false_and, Bool.true_eq_false, Bool.false_eq_true, and_self, eq_self, reduceCtorEq]; rfl))
    ·refine cnd (fun hg3 => ?_) (fun hg3 => ?_)
     ·refine cnd (fun hb5 => ?_) (fun hb5 => ?_)
      ·first | refine appPq ?_ | refine appP ?_
       exact resL (by first | (simp_all [ctlFaults, elD, cellD]; done) | (simp only [ctlFaults, decide_eq_true_eq, ne_eq, *, if_true, if_false, not_true_eq_false, not_false_eq_true, and_true, and_false, true_and, false_and, Bool.true_eq_false, Bool.false_eq_true, and_self, eq_self, reduceCtorEq]; rfl))
      ·exact resL (by first | (simp_all [ctlFaults, elD, cellD]; done) | (simp only [ctlFaults, decide_eq_true_eq, ne_eq, *, if_true, if_false, not_true_eq_false, not_false_eq_true, and_true, and_false, true_and, false_and, Bool.true_eq_false, Bool.false_eq_true, and_self, eq_self, reduceCtorEq]; rfl))
     ·exact resL (by first | (simp_all [ctlFaults, elD, cellD]; done) | (simp only [ctlFaults, decide_eq_true_eq, ne_eq, *, if_true, if_false, not_true_eq_false, not_false_eq_true, and_true, and_false, true_and, false_and, Bool.true_eq_false, Bool.false_eq_true, and_self, eq_self, reduceCtorEq]; rfl))
   ·refine cnd (fun hg3 => ?_) (fun hg3 => ?_)
    ·refine cnd (fun hb6 => ?_) (fun hb6 => ?_)
     ·first | refine appPq ?_ | refine appP ?_
      exact resL (by first | (simp_all [ctlFaults, elD, cellD]; done) | (simp only [ctlFaults, decide_eq_true_eq, ne_eq, *, if_true, if_false, not_true_eq_false, not_false_eq_true, and_true, and_false, true_and, false_and, Bool.true_eq_false, Bool.false_eq_true, and_self, eq_self, reduceCtorEq]; rfl))
     ·exact resL (by first | (simp_all [ctlFaults, elD, cellD]; done) | (simp only [ctlFaults, decide_eq_true_eq, ne_eq, *, if_true, if_false, not_true_eq_false, not_false_eq_true, and_true, and_false, true_and, false_and, Bool.true_eq_false, Bool.false_eq_true, and_self, eq_self, reduceCtorEq]; rfl))
    ·exact resL (by first | (simp_all [ctlFaults, elD, cellD]; done) | (simp only [ctlFaults, decide_eq_true_eq, ne_eq, *, if_true, if_false, not_true_eq_false, not_false_eq_true, and_true, and_false, true_and, false_and, Bool.true_eq_false, Bool.false_eq_true, and_self, eq_self, reduceCtorEq]; rfl))
  ·refine cnd (fun hg3 => ?_) (fun hg3 => ?_)
   ·refine cnd (fun hb7 => ?_) (fun hb7 => ?_)
    ·first | refine appPq ?_ | refine appP ?_
     refine cnd (fun hg3 => ?_) (fun hg3 => ?_)
     ·refine cnd (fun hb8 => ?_) (fun hb8 => ?_)
      ·first | refine appPq ?_ | refine appP ?_
       exact resL (by first | (simp_all [ctlFaults, elD, cellD]; done) | (simp only [ctlFaults, decide_eq_true_eq, ne_eq, *, if_true, if_false, not_true_eq_false, not_false_eq_true, and_true, and_false, true_and, false_and, Bool.true_eq_false, Bool.false_eq_true, and_self, eq_self, reduceCtorEq]; rfl))
      ·exact resL (by first | (simp_all [ctlFaults, elD, cellD]; done) | (simp only [ctlFaults, decide_eq_true_eq, ne_eq, *, if_true, if_false, not_true_eq_false, not_false_eq_true, and_true, and_false, true_and, false_and, Bool.true_eq_false, Bool.false_eq_true, and_self, eq_self, reduceCtorEq]; rfl))
     ·exact resL (by first | (simp_all [ctlFaults, elD, cellD]; done) | (simp only [ctlFaults, decide_eq_true_eq, ne_eq, *, if_true, if_false, not_true_eq_false, not_false_eq_true, and_true, and_false, true_and, false_and, Bool.true_eq_false, Bool.false_eq_true, and_self, eq_self, reduceCtorEq]; rfl))
    ·refine cnd (fun hg3 => ?_) (fun hg3 => ?_)
     ·refine cnd (fun hb9 => ?_) (fun hb9 => ?_)
      ·first | refine appPq ?_ | refine appP ?_
       exact resL (by first | (simp_all [ctlFaults, elD, cellD]; done) | (simp only [ctlFaults, decide_eq_true_eq, ne_eq, *, if_true, if_false, not_true_eq_false, not_false_eq_true, and_true, and_false, true_and, false_and, Bool.true_eq_false, Bool.false_eq_true, and_self, eq_self, reduceCtorEq]; rfl))
      ·exact resL (by first | (simp_all [ctlFaults, elD, cellD]; done) | (simp only [ctlFaults, decide_eq_true_eq, ne_eq, *, if_true, if_false, not_true_eq_false, not_false_eq_true, and_true, and_false, true_and, false_and, Bool.true_eq_false, Bool.false_eq_true, and_self, eq_self, reduceCtorEq]; rfl))
     ·exact resL (by first | (simp_all [ctlFaults, elD, cellD]; done) | (simp only [ctlFaults, decide_eq_true_eq, ne_eq, *, if_true, if_false, not_true_eq_false, not_false_eq_true, and_true, and_false, true_and, false_and, Bool.true_eq_false, Bool.false_eq_true, and_self, eq_self, reduceCtorEq]; rfl))
   ·refine cnd (fun hg3 => ?_) (fun hg3 => ?_)
    ·refine cnd (fun hb10 => ?_) (fun hb10 => ?_)
     ·first | refine appPq ?_ | refine appP ?_
      exact resL (by first | (simp_all [ctlFaults, elD, cellD]; done) | (simp only [ctlFaults, decide_eq_true_eq, ne_eq, *, if_true, if_false, not_true_eq_false, not_false_eq_true, and_true, and_false, true_and, false_and, Bool.true_eq_false, Bool.false_eq_true, and_self, eq_self, reduceCtorEq]; rfl))
     ·exact resL (by first | (simp_all [ctlFaults, elD, cellD]; done) | (simp only [ctlFaults, decide_eq_true_eq, ne_eq, *, if_true, if_false, not_true_eq_false, not_false_eq_true, and_true, and_false, true_and, false_and, Bool.true_eq_false, Bool.false_eq_true, and_self, eq_self, reduceCtorEq]; rfl))
    ·exact resL (by first | (simp_all [ctlFaults, elD, cellD]; done) | (simp only [ctlFaults, decide_eq_true_eq, ne_eq, *, if_true, if_false, not_true_eq_false, not_false_eq_true, and_true, and_false, true_and, false_and, Bool.true_eq_false, Bool.false_eq_true, and_self, eq_self, reduceCtorEq]; rfl))
 ·refine callP (spec_l01In_f _ _ _).k ?_
  refine cnd (fun hb11 => ?_) (fun hb11 => ?_)
  ·first | refine appPq ?_ | refine appP ?_
   refine cnd (fun hg3 => ?_) (fun hg3 => ?_)
   ·refine cnd (fun hb12 => ?_) (fun hb12 => ?_)
    ·first | refine appPq ?_ | refine appP ?_
     refine cnd (fun hg3 => ?_) (fun hg3 => ?_)
     ·refine cnd (fun hb13 => ?_) (fun hb13 => ?_)
      ·first | refine appPq ?_ | refine appP ?_
       exact resL (by first | (simp_all [ctlFaults, elD, cellD]; done) | (simp only [ctlFaults, decide_eq_true_eq, ne_eq, *, if_true, if_false, not_true_eq_false, not_false_eq_true, and_true, and_false, true_and, false_and, Bool.true_eq_false, Bool.false_eq_true, and_self, eq_self, reduceCtorEq]; rfl))
      ·exact resL (by first | (simp_all [ctlFaults, elD, cellD]; done) | (simp only [ctlFaults, decide_eq_true_eq, ne_eq, *, if_true, if_false, not_true_eq_false, not_false_eq_true, and_true, and_false, true_and, false_and, Bool.true_eq_false, Bool.false_eq_true, and_self, eq_self, reduceCtorEq]; rfl))
     ·exact resL (by first | (simp_all [ctlFaults, elD, cellD]; done) | (simp only [ctlFaults, decide_eq_true_eq, ne_eq, *, if_true, if_false, not_true_eq_false, not_false_eq_true, and_true, and_false, true_and, false_and, Bool.true_eq_false, Bool.false_eq_true, and_self, eq_self, reduceCtorEq]; rfl))
    ·refine cnd (fun hg3 => ?_) (fun hg3 => ?_)
     ·refine cnd (fun hb14 => ?_) (fun hb14 => ?_)
      ·first | refine appPq ?_ | refine appP ?_
       exact resL (by first | (simp_all [ctlFaults, elD, cellD]; done) | (simp only [ctlFaults, decide_eq_true_eq, ne_eq, *, if_true, if_false, not_true_eq_false, not_false_eq_true, and_true, and_false, true_and, false_and, Bool.true_eq_false, Bool.false_eq_true, and_self, eq_self, reduceCtorEq]; rfl))
      ·exact resL (by first | (simp_all [ctlFaults, elD, cellD]; done) | (simp only [ctlFaults, decide_eq_true_eq, ne_eq, *, if_true, if_false, not_true_eq_false, not_false_eq_true, and_true, and_false, true_and, false_and, Bool.true_eq_false, Bool.false_eq_true, and_self, eq_self, reduceCtorEq]; rfl))
     ·exact resL (by first | (simp_all [ctlFaults, elD, cellD]; done) | (simp only [ctlFaults, decide_eq_true_eq, ne_eq, *, if_true, if_false, not_true_eq_false, not_false_eq_true, and_true, and_false, true_and, false_and, Bool.true_eq_false, Bool.false_eq_true, and_self, eq_self, reduceCtorEq]; rfl))
   ·refine cnd (fun hg3 => ?_) (fun hg3 => ?_)
    ·refine cnd (fun hb15 => ?_) (fun hb15 => ?_)
     ·first | refine appPq ?_ | refine appP ?_
      exact resL (by first | (simp_all [ctlFaults, elD, cellD]; done) | (simp only [ctlFaults, decide_eq_true_eq, ne_eq, *, if_true, if_false, not_true_eq_false, not_false_eq_true, and_true, and_false, true_and, false_and, Bool.true_eq_false, Bool.false_eq_true, and_self, eq_self, reduceCtorEq]; rfl))
     ·exact resL (by first | (simp_all [ctlFaults, elD, cellD]; done) | (simp only [ctlFaults, decide_eq_true_eq, ne_eq, *, if_true, if_false, not_true_eq_false, not_false_eq_true, and_true, and_false, true_and, false_and, Bool.true_eq_false, Bool.false_eq_true, and_self, eq_self, reduceCtorEq]; rfl))
    ·exact resL (by first | (simp_all [ctlFaults, elD, cellD]; done) | (simp only [ctlFaults, decide_eq_true_eq, ne_eq, *, if_true, if_false, not_true_eq_false, not_false_eq_true, and_true, and_false, true_and, false_and, Bool.true_eq_false, Bool.false_eq_true, and_self, eq_self, reduceCtorEq]; rfl))
  ·refine cnd (fun hg3 => ?_) (fun hg3 => ?_)
   ·refine cnd (fun hb16 => ?_) (fun hb16 => ?_)
    ·first | refine appPq ?_ | refine appP ?_
     refine cnd (fun hg3 => ?_) (fun hg3 => ?_)
     ·refine cnd (fun hb17 => ?_) (fun hb17 => ?_)
      ·first | refine appPq ?_ | refine appP ?_
       exact resL (by first | (simp_all [ctlFaults, elD, cellD]; done) | (simp only [ctlFaults, decide_eq_true_eq, ne_eq, *, if_true, if_false, not_true_eq_false, not_false_eq_true, and_true, and_false, true_and, false_and, Bool.true_eq_false, Bool.false_eq_true, and_self, eq_self, reduceCtorEq]; rfl))
      ·exact resL (by first | (simp_all [ctlFaults, elD, cellD]; done) | (simp only [ctlFaults, decide_eq_true_eq, ne_eq, *, if_true, if_false, not_true_eq_false, not_false_eq_true, and_true, and_false, true_and, false_and, Bool.true_eq_false, Bool.false_eq_true, and_self, eq_self, reduceCtorEq]; rfl))
     ·exact resL (by first | (simp_all [ctlFaults, elD, cellD]; done) | (simp only [ctlFaults, decide_eq_true_eq, ne_eq, *, if_true, if_false, not_true_eq_false, not_false_eq_true, and_true, and_false, true_and, false_and, Bool.true_eq_false, Bool.false_eq_true, and_self, eq_self, reduceCtorEq]; rfl))
    ·refine cnd (fun hg3 => ?_) (fun hg3 => ?_)
     ·refine cnd (fun hb18 => ?_) (fun hb18 => ?_)
      ·first | refine appPq ?_ | refine appP ?_
       exact resL (by first | (simp_all [ctlFaults, elD, cellD]; done) | (simp only [ctlFaults, decide_eq_true_eq, ne_eq, *, if_true, if_false, not_true_eq_false, not_false_eq_true, and_true, and_false, true_and, false_and, Bool.true_eq_false, Bool.false_eq_true, and_self, eq_self, reduceCtorEq]; rfl))
      ·exact resL (by first | (simp_all [ctlFaults, elD, cellD]; done) | (simp only [ctlFaults, decide_eq_true_eq, ne_eq, *, if_true, if_false, not_true_eq_false, not_false_eq_true, and_true, and_false, true_and, false_and, Bool.true_eq_false, Bool.false_eq_true, and_self, eq_self, reduceCtorEq]; rfl))
     ·exact resL (by first | (simp_all [ctlFaults, elD, cellD]; done) | (simp only [ctlFaults, decide_eq_true_eq, ne_eq, *, if_true, if_false, not_true_eq_false, not_false_eq_true, and_true, and_false, true_and, false_and, Bool.true_eq_false, Bool.false_eq_true, and_self, eq_self, reduceCtorEq]; rfl))
   ·refine cnd (fun hg3 => ?_) (fun hg3 => ?_)
    ·refine cnd (fun hb19 => ?_) (fun hb19 => ?_)
     ·first | refine appPq ?_ | refine appP ?_
      exact resL (by first | (simp_all [ctlFaults, elD, cellD]; done) | (simp only [ctlFaults, decide_eq_true_eq, ne_eq, *, if_true, if_false, not_true_eq_false, not_false_eq_true, and_true, and_false, true_and, false_and, Bool.true_eq_false, Bool.false_eq_true, and_self, eq_self, reduceCtorEq]; rfl))
     ·exact resL (by first | (simp_all [ctlFaults, elD, cellD]; done) | (simp only [ctlFaults, decide_eq_true_eq, ne_eq, *, if_true, if_false, not_true_eq_false, not_false_eq_true, and_true, and_false, true_and, false_and, Bool.true_eq_false, Bool.false_eq_true, and_self, eq_self, reduceCtorEq]; rfl))
    ·exact resL (by first | (simp_all [ctlFaults, elD, cellD]; done) | (simp only [ctlFaults, decide_eq_true_eq, ne_eq, *, if_true, if_false, not_true_eq_false, not_false_eq_true, and_true, and_false, true_and, false_and, Bool.true_eq_false, Bool.false_eq_true, and_self, eq_self, reduceCtorEq]; rfl))
theorem impl_CtlFaults_f (x : VCtl) : Fun Tryz.prog 398 [A (rCtl x)] (RL 1 ((ctlFaults x).map dInt)) := by
 refine Fun.w 42 Tryz.func398 fun w g0 _ => ?_
 refine callP (impl_within_f _ _ _).k ?_
 refine cnd (fun hb => ?_) (fun hb => ?_)
 ·first | refine appPq ?_ | refine appP ?_
  refine callP (impl_within_f _ _ _).k ?_
  refine cnd (fun hb2 => ?_) (fun hb2 => ?_)
  ·first | refine appPq ?_ | refine appP ?_
   refine cnd (fun hg3 => ?_) (fun hg3 => ?_)
   ·refine cnd (fun hb3 => ?_) (fun hb3 => ?_)
    ·first | refine appPq ?_ | refine appP ?_
     refine cnd (fun hg3 => ?_) (fun hg3 => ?_)
     ·refine cnd (fun hb4 => ?_) (fun hb4 => ?_)
      ·first | refine appPq ?_ | refine appP ?_
       exact resL (by first | (simp_all [ctlFaults, elD, cellD]; done) | (simp only [ctlFaults, decide_eq_true_eq, ne_eq, *, if_true, if_false, not_true_eq_false, not_false_eq_true, and_true, and_false, true_and, false_and, Bool.true_eq_false, Bool.false_eq_true, and_self, eq_self, reduceCtorEq]; rfl))
      ·exact resL (by first | (simp_all [ctlFaults, elD, cellD]; done) | (simp only [ctlFaults, decide_eq_true_eq, ne_eq, *, if_true, if_false, not_true_eq_false, not_false_eq_true, and_true, and_false, true_and, false_and, Bool.true_eq_false, Bool.false_eq_true, and_self, eq_self, reduceCtorEq]; rfl))
     ·exact resL (by first | (simp_all [ctlFaults, elD, cellD]; done) | (simp only [ctlFaults, decide_eq_true_eq, ne_eq, *, if_true, if_false, not_true_eq_false, not_false_eq_true, and_true, and_false, true_and, false_and, Bool.true_eq_false, Bool.false_eq_true, and_self, eq_self, reduceCtorEq]; rfl))
    ·refine cnd (fun hg3 => ?_) (fun hg3 => ?_)
     ·refine cnd (fun hb5 => ?_) (fun hb5 => ?_)
      ·first | refine appPq ?_ | refine appP ?_
       exact resL (by first | (simp_all [ctlFaults, elD, cellD]; done) | (simp only [ctlFaults, decide_eq_true_eq, ne_eq, *, if_true, if_false, not_true_eq_false, not_false_eq_true, and_true, and_false, true_and, false_and, Bool.true_eq_false, Bool.false_eq_true, and_self, eq_self, reduceCtorEq]; rfl))
      ·exact resL (by first | (simp_all [ctlFaults, elD, cellD]; done) | (simp only [ctlFaults, decide_eq_true_eq, ne_eq, *, if_true, if_false, not_true_eq_false, not_false_eq_true, and_true, and_false, true_and, false_and, Bool.true_eq_false, Bool.false_eq_true, and_self, eq_self, reduceCtorEq]; rfl))
     ·exact resL (by first | (simp_all [ctlFaults, elD, cellD]; done) | (simp only [ctlFaults, decide_eq_true_eq, ne_eq, *, if_true, if_false, not_true_eq_false, not_false_eq_true, and_true, and_false, true_and, false_and, Bool.true_eq_false, Bool.false_eq_true, and_self, eq_self, reduceCtorEq]; rfl))
   ·refine cnd (fun hg3 => ?_) (fun hg3 => ?_)
    ·refine cnd (fun hb6 => ?_) (fun hb6 => ?_)
     ·first | refine appPq ?_ | refine appP ?_
      exact resL (by first | (simp_all [ctlFaults, elD, cellD]; done) | (simp only [ctlFaults, decide_eq_true_eq, ne_eq, *, if_true, if_false, not_true_eq_false, not_false_eq_true, and_true, and_false, true_and, false_and, Bool.true_eq_false, Bool.false_eq_true, and_self, eq_self, reduceCtorEq]; rfl))
     ·exact resL (by first | (simp_all [ctlFaults, elD, cellD]; done) | (simp only [ctlFaults, decide_eq_true_eq, ne_eq, *, if_true, if_false, not_true_eq_false, not_false_eq_true, and_true, and_false, true_and, false_and, Bool.true_eq_false, Bool.false_eq_true, and_self, eq_self, reduceCtorEq]; rfl))
    ·exact resL (by first | (simp_all [ctlFaults, elD, cellD]; done) | (simp only [ctlFaults, decide_eq_true_eq, ne_eq, *, if_true, if_false, not_true_eq_false, not_false_eq_true, and_true, and_false, true_and, false_and, Bool.true_eq_false, Bool.false_eq_true, and_self, eq_self, reduceCtorEq]; rfl))
  ·refine cnd (fun hg3 => ?_) (fun hg3 => ?_)
   ·refine cnd (fun hb7 => ?_) (fun hb7 => ?_)
    ·first | refine appPq ?_ | refine appP ?_
     refine cnd (fun hg3 => ?_) (fun hg3 => ?_)
     ·refine cnd (fun hb8 => ?_) (fun hb8 => ?_)
      ·first | refine appPq ?_ | refine appP ?_
       exact resL (by first | (simp_all [ctlFaults, elD, cellD]; done) | (simp only [ctlFaults, decide_eq_true_eq, ne_eq, *, if_true, if_false, not_true_eq_false, not_false_eq_true, and_true, and_false, true_and, false_and, Bool.true_eq_false, Bool.false_eq_true, and_self, eq_self, reduceCtorEq]; rfl))
      ·exact resL (by first | (simp_all [ctlFaults, elD, cellD]; done) | (simp only [ctlFaults, decide_eq_true_eq, ne_eq, *, if_true, if_false, not_true_eq_false, not_false_eq_true, and_true, and_false, true_and, false_and, Bool.true_eq_false, Bool.false_eq_true, and_self, eq_self, reduceCtorEq]; rfl))
     ·exact resL (by first | (simp_all [ctlFaults, elD, cellD]; done) | (simp only [ctlFaults, decide_eq_true_eq, ne_eq, *, if_true, if_false, not_true_eq_false, not_false_eq_true, and_true, and_false, true_and, false_and, Bool.true_eq_false, Bool.false_eq_true, and_self, eq_self, reduceCtorEq]; rfl))
    ·refine cnd (fun hg3 => ?_) (fun hg3 => ?_)
     ·refine cnd (fun hb9 => ?_) (fun hb9 => ?_)
      ·first | refine appPq ?_ | refine appP ?_
       exact resL (by first | (simp_all [ctlFaults, elD, cellD]; done) | (simp only [ctlFaults, decide_eq_true_eq, ne_eq, *, if_true, if_false, not_true_eq_false, not_false_eq_true, and_true, and_false, true_and, false_and, Bool.true_eq_false, Bool.false_eq_true, and_self, eq_self, reduceCtorEq]; rfl))
      ·exact resL (by first | (simp_all [ctlFaults, elD, cellD]; done) | (simp only [ctlFaults, decide_eq_true_eq, ne_eq, *, if_true, if_false, not_true_eq_false, not_false_eq_true, and_true, and_false, true_and, false_and, Bool.true_eq_false, Bool.false_eq_true, and_self, eq_self, reduceCtorEq]; rfl))
     ·exact resL (by first | (simp_all [ctlFaults, elD, cellD]; done) | (simp only [ctlFaults, decide_eq_true_eq, ne_eq, *, if_true, if_false, not_true_eq_false, not_false_eq_true, and_true, and_false, true_and, false_and, Bool.true_eq_false, Bool.false_eq_true, and_self, eq_self, reduceCtorEq]; rfl))
   ·refine cnd (fun hg3 => ?_) (fun hg3 => ?_)
    ·refine cnd (fun hb10 => ?_) (fun hb10 => ?_)
     ·first | refine appPq ?_ | refine appP ?_
      exact resL (by first | (simp_all [ctlFaults, elD, cellD]; done) | (simp only [ctlFaults, decide_eq_true_eq, ne_eq, *, if_true, if_false, not_true_eq_false, not_false_eq_true, and_true, and_false, true_and, false_and, Bool.true_eq_false, Bool.false_eq_true, and_self, eq_self, reduceCtorEq]; rfl))
     ·exact resL (by first | (simp_all [ctlFaults, elD, cellD]; done) | (simp only [ctlFaults, decide_eq_true_eq, ne_eq, *, if_true, if_false, not_true_eq_false, not_false_eq_true, and_true, and_false, true_and, false_and, Bool.true_eq_false, Bool.false_eq_true, and_self, eq_self, reduceCtorEq]; rfl))
    ·exact resL (by first | (simp_all [ctlFaults, elD, cellD]; done) | (simp only [ctlFaults, decide_eq_true_eq, ne_eq, *, if_true, if_false, not_true_eq_false, not_false_eq_true, and_true, and_false, true_and, false_and, Bool.true_eq_false, Bool.false_eq_true, and_self, eq_self, reduceCtorEq]; rfl))
 ·refine callP (impl_within_f _ _ _).k ?_
  refine cnd (fun hb11 => ?_) (fun hb11 => ?_)
  ·first | refine appPq ?_ | refine appP ?_
   refine cnd (fun hg3 => ?_) (fun hg3 => ?_)
   ·refine cnd (fun hb12 => ?_) (fun hb12 => ?_)
    ·first | refine appPq ?_ | refine appP ?_
     refine cnd (fun hg3 => ?_) (fun hg3 => ?_)
     ·refine cnd (fun hb13 => ?_) (fun hb13 => ?_)
      ·first | refine appPq ?_ | refine appP ?_
       exact resL (by first | (simp_all [ctlFaults, elD, cellD]; done) | (simp only [ctlFaults, decide_eq_true_eq, ne_eq, *, if_true, if_false, not_true_eq_false, not_false_eq_true, and_true, and_false, true_and, false_and, Bool.true_eq_false, Bool.false_eq_true, and_self, eq_self, reduceCtorEq]; rfl))
      ·exact resL (by first | (simp_all [ctlFaults, elD, cellD]; done) | (simp only [ctlFaults, decide_eq_true_eq, ne_eq, *, if_true, if_false, not_true_eq_false, not_false_eq_true, and_true, and_false, true_and, false_and, Bool.true_eq_false, Bool.false_eq_true, and_self, eq_self, reduceCtorEq]; rfl))
     ·exact resL (by first | (simp_all [ctlFaults, elD, cellD]; done) | (simp only [ctlFaults, decide_eq_true_eq, ne_eq, *, if_true, if_false, not_true_eq_false, not_false_eq_true, and_true, and_false, true_and, false_and, Bool.true_eq_false, Bool.false_eq_true, and_self, eq_self, reduceCtorEq]; rfl))
    ·refine cnd (fun hg3 => ?_) (fun hg3 => ?_)
     ·refine cnd (fun hb14 => ?_) (fun hb14 => ?_)
      ·first | refine appPq ?_ | refine appP ?_
       exact resL (by first | (simp_all [ctlFaults, elD, cellD]; done) | (simp only [ctlFaults, decide_eq_true_eq, ne_eq, *, if_true, if_false, not_true_eq_false, not_false_eq_true, and_true, and_false, true_and, false_and, Bool.true_eq_false, Bool.false_eq_true, and_self, eq_self, reduceCtorEq]; rfl))
      ·exact resL (by first | (simp_all [ctlFaults, elD, cellD]; done) | (simp only [ctlFaults, decide_eq_true_eq, ne_eq, *, if_true, if_false, not_true_eq_false, not_false_eq_true, and_true, and_false, true_and, false_and, Bool.true_eq_false, Bool.false_eq_true, and_self, eq_self, reduceCtorEq]; rfl))
     ·exact resL (by first | (simp_all [ctlFaults, elD, cellD]; done) | (simp only [ctlFaults, decide_eq_true_eq, ne_eq, *, if_true, if_false, not_true_eq_false, not_false_eq_true, and_true, and_false, true_and, false_and, Bool.true_eq_false, Bool.false_eq_true, and_self, eq_self, reduceCtorEq]; rfl))
   ·refine cnd (fun hg3 => ?_) (fun hg3 => ?_)
    ·refine cnd (fun hb15 => ?_) (fun hb15 => ?_)
     ·first | refine appPq ?_ | refine appP ?_
      exact resL (by first | (simp_all [ctlFaults, elD, cellD]; done) | (simp only [ctlFaults, decide_eq_true_eq, ne_eq, *, if_true, if_false, not_true_eq_false, not_false_eq_true, and_true, and_false, true_and, false_and, Bool.true_eq_false, Bool.false_eq_true, and_self, eq_self, reduceCtorEq]; rfl))
     ·exact resL (by first | (simp_all [ctlFaults, elD, cellD]; done) | (simp only [ctlFaults, decide_eq_true_eq, ne_eq, *, if_true, if_false, not_true_eq_false, not_false_eq_true, and_true, and_false, true_and, false_and, Bool.true_eq_false, Bool.false_eq_true, and_self, eq_self, reduceCtorEq]; rfl))
    ·exact resL (by first | (simp_all [ctlFaults, elD, cellD]; done) | (simp only [ctlFaults, decide_eq_true_eq, ne_eq, *, if_true, if_false, not_true_eq_false, not_false_eq_true, and_true, and_false, true_and, false_and, Bool.true_eq_false, Bool.false_eq_true, and_self, eq_self, reduceCtorEq]; rfl))
  ·refine cnd (fun hg3 => ?_) (fun hg3 => ?_)
   ·refine cnd (fun hb16 => ?_) (fun hb16 => ?_)
    ·first | refine appPq ?_ | refine appP ?_
     refine cnd (fun hg3 => ?_) (fun hg3 => ?_)
     ·refine cnd (fun hb17 => ?_) (fun hb17 => ?_)
      ·first | refine appPq ?_ | refine appP ?_
       exact resL (by first | (simp_all [ctlFaults, elD, cellD]; done) | (simp only [ctlFaults, decide_eq_true_eq, ne_eq, *, if_true, if_false, not_true_eq_false, not_false_eq_true, and_true, and_false, true_and, false_and, Bool.true_eq_false, Bool.false_eq_true, and_self, eq_self, reduceCtorEq]; rfl))
      ·exact resL (by first | (simp_all [ctlFaults, elD, cellD]; done) | (simp only [ctlFaults, decide_eq_true_eq, ne_eq, *, if_true, if_false, not_true_eq_false, not_false_eq_true, and_true, and_false, true_and, false_and, Bool.true_eq_false, Bool.false_eq_true, and_self, eq_self, reduceCtorEq]; rfl))
     ·exact resL (by first | (simp_all [ctlFaults, elD, cellD]; done) | (simp only [ctlFaults, decide_eq_true_eq, ne_eq, *, if_true, if_false, not_true_eq_false, not_false_eq_true, and_true, and_false, true_and, false_and, Bool.true_eq_false, Bool.false_eq_true, and_self, eq_self, reduceCtorEq]; rfl))
    ·refine cnd (fun hg3 => ?_) (fun hg3 => ?_)
     ·refine cnd (fun hb18 => ?_) (fun hb18 => ?_)
      ·first | refine appPq ?_ | refine appP ?_
       exact resL (by first | (simp_all [ctlFaults, elD, cellD]; done) | (simp only [ctlFaults, decide_eq_true_eq, ne_eq, *, if_true, if_false, not_true_eq_false, not_false_eq_true, and_true, and_false, true_and, false_and, Bool.true_eq_false, Bool.false_eq_true, and_self, eq_self, reduceCtorEq]; rfl))
      ·exact resL (by first | (simp_all [ctlFaults, elD, cellD]; done) | (simp only [ctlFaults, decide_eq_true_eq, ne_eq, *, if_true, if_false, not_true_eq_false, not_false_eq_true, and_true, and_false, true_and, false_and, Bool.true_eq_false, Bool.false_eq_true, and_self, eq_self, reduceCtorEq]; rfl))
     ·exact resL (by first | (simp_all [ctlFaults, elD, cellD]; done) | (simp only [ctlFaults, decide_eq_true_eq, ne_eq, *, if_true, if_false, not_true_eq_false, not_false_eq_true, and_true, and_false, true_and, false_and, Bool.true_eq_false, Bool.false_eq_true, and_self, eq_self, reduceCtorEq]; rfl))
   ·refine cnd (fun hg3 => ?_) (fun hg3 => ?_)
    ·refine cnd (fun hb19 => ?_) (fun hb19 => ?_)
     ·first | refine appPq ?_ | refine appP ?_
      exact resL (by first | (simp_all [ctlFaults, elD, cellD]; done) | (simp only [ctlFaults, decide_eq_true_eq, ne_eq, *, if_true, if_false, not_true_eq_false, not_false_eq_true, and_true, and_false, true_and, false_and, Bool.true_eq_false, Bool.false_eq_true, and_self, eq_self, reduceCtorEq]; rfl))
     ·exact resL (by first | (simp_all [ctlFaults, elD, cellD]; done) | (simp only [ctlFaults, decide_eq_true_eq, ne_eq, *, if_true, if_false, not_true_eq_false, not_false_eq_true, and_true, and_false, true_and, false_and, Bool.true_eq_false, Bool.false_eq_true, and_self, eq_self, reduceCtorEq]; rfl))
    ·exact resL (by first | (simp_all [ctlFaults, elD, cellD]; done) | (simp only [ctlFaults, decide_eq_true_eq, ne_eq, *, if_true, if_false, not_true_eq_false, not_false_eq_true, and_true, and_false, true_and, false_and, Bool.true_eq_false, Bool.false_eq_true, and_self, eq_self, reduceCtorEq]; rfl))
theorem spec_CtlOk_f (x : VCtl) : Fun Tryz.prog 292 [A (rCtl x)] (RV (.bool (ctlOk x))) := by
 refine Fun.w 7 Tryz.func292 fun w g0 _ => ?_
 refine callL (spec_CtlFaults_f _).k ?_
 refine len ?_
 exact resV (by first | (unfold ctlOk; refine congrArg Value.bool ?_; rw [Bool.eq_iff_iff]; simp))
theorem impl_CtlOk_f (x : VCtl) : Fun Tryz.prog 299 [A (rCtl x)] (RV (.bool (ctlOk x))) := by
 refine Fun.w 7 Tryz.func299 fun w g0 _ => ?_
 refine callL (impl_CtlFaults_f _).k ?_
 refine len ?_
 exact resV (by first | (unfold ctlOk; refine congrArg Value.bool ?_; rw [Bool.eq_iff_iff]; simp))
theorem spec_ExitOk_f (x : VExit) : Fun Tryz.prog 293 [A (rExit x)] (RV (.bool (exitOk x))) := by
 refine Fun.w 39 Tryz.func293 fun w g0 _ => ?_
 refine cnd (fun hb => ?_) (fun hb => ?_)
 ·refine eqa ?_
  exact resV (by first | (cases x; simp_all [exitOk, eqVs, eqV]; done) | (cases x; simp_all [exitOk, eqVs, eqV]; omega) | (cases x; simp_all [exitOk, eqVs, eqV] <;> (try intros) <;> omega) | (cases x; simp_all [exitOk, eqVs, eqV] <;> rfl) | (cases x; simp_all [exitOk, eqVs, eqV]; rw [Bool.eq_iff_iff]; simp [and_assoc]))
 ·refine cnd (fun hb2 => ?_) (fun hb2 => ?_)
  ·refine eqa ?_
   exact resV (by first | (cases x; simp_all [exitOk, eqVs, eqV]; done) | (cases x; simp_all [exitOk, eqVs, eqV]; omega) | (cases x; simp_all [exitOk, eqVs, eqV] <;> (try intros) <;> omega) | (cases x; simp_all [exitOk, eqVs, eqV] <;> rfl) | (cases x; simp_all [exitOk, eqVs, eqV]; rw [Bool.eq_iff_iff]; simp [and_assoc]))
  ·refine cnd (fun hb3 => ?_) (fun hb3 => ?_)
   ·refine callP (spec_l01In_f _ _ _).k ?_
    refine cnd (fun hg3 => ?_) (fun hg3 => ?_)
    ·exact resV (by first | (cases x; simp_all [exitOk, eqVs, eqV]; done) | (cases x; simp_all [exitOk, eqVs, eqV]; omega) | (cases x; simp_all [exitOk, eqVs, eqV] <;> (try intros) <;> omega) | (cases x; simp_all [exitOk, eqVs, eqV] <;> rfl) | (cases x; simp_all [exitOk, eqVs, eqV]; rw [Bool.eq_iff_iff]; simp [and_assoc]))
    ·exact resV (by first | (cases x; simp_all [exitOk, eqVs, eqV]; done) | (cases x; simp_all [exitOk, eqVs, eqV]; omega) | (cases x; simp_all [exitOk, eqVs, eqV] <;> (try intros) <;> omega) | (cases x; simp_all [exitOk, eqVs, eqV] <;> rfl) | (cases x; simp_all [exitOk, eqVs, eqV]; rw [Bool.eq_iff_iff]; simp [and_assoc]))
   ·refine cnd (fun hb4 => ?_) (fun hb4 => ?_)
    ·refine callP (spec_l01In_f _ _ _).k ?_
     refine cnd (fun hg3 => ?_) (fun hg3 => ?_)
     ·refine cnd (fun hg8 => ?_) (fun hg8 => ?_)
      ·exact resV (by first | (cases x; simp_all [exitOk, eqVs, eqV]; done) | (cases x; simp_all [exitOk, eqVs, eqV]; omega) | (cases x; simp_all [exitOk, eqVs, eqV] <;> (try intros) <;> omega) | (cases x; simp_all [exitOk, eqVs, eqV] <;> rfl) | (cases x; simp_all [exitOk, eqVs, eqV]; rw [Bool.eq_iff_iff]; simp [and_assoc]))
      ·exact resV (by first | (cases x; simp_all [exitOk, eqVs, eqV]; done) | (cases x; simp_all [exitOk, eqVs, eqV]; omega) | (cases x; simp_all [exitOk, eqVs, eqV] <;> (try intros) <;> omega) | (cases x; simp_all [exitOk, eqVs, eqV] <;> rfl) | (cases x; simp_all [exitOk, eqVs, eqV]; rw [Bool.eq_iff_iff]; simp [and_assoc]))
     ·exact resV (by first | (cases x; simp_all [exitOk, eqVs, eqV]; done) | (cases x; simp_all [exitOk, eqVs, eqV]; omega) | (cases x; simp_all [exitOk, eqVs, eqV] <;> (try intros) <;> omega) | (cases x; simp_all [exitOk, eqVs, eqV] <;> rfl) | (cases x; simp_all [exitOk, eqVs, eqV]; rw [Bool.eq_iff_iff]; simp [and_assoc]))
    ·refine cnd (fun hb5 => ?_) (fun hb5 => ?_)
     ·refine callP (spec_l01In_f _ _ _).k ?_
      refine cnd (fun hg3 => ?_) (fun hg3 => ?_)
      ·refine cnd (fun hg8 => ?_) (fun hg8 => ?_)
       ·exact resV (by first | (cases x; simp_all [exitOk, eqVs, eqV]; done) | (cases x; simp_all [exitOk, eqVs, eqV]; omega) | (cases x; simp_all [exitOk, eqVs, eqV] <;> (try intros) <;> omega) | (cases x; simp_all [exitOk, eqVs, eqV] <;> rfl) | (cases x; simp_all [exitOk, eqVs, eqV]; rw [Bool.eq_iff_iff]; simp [and_assoc]))
       ·exact resV (by first | (cases x; simp_all [exitOk, eqVs, eqV]; done) | (cases x; simp_all [exitOk, eqVs, eqV]; omega) | (cases x; simp_all [exitOk, eqVs, eqV] <;> (try intros) <;> omega) | (cases x; simp_all [exitOk, eqVs, eqV] <;> rfl) | (cases x; simp_all [exitOk, eqVs, eqV]; rw [Bool.eq_iff_iff]; simp [and_assoc]))
      ·exact resV (by first | (cases x; simp_all [exitOk, eqVs, eqV]; done) | (cases x; simp_all [exitOk, eqVs, eqV]; omega) | (cases x; simp_all [exitOk, eqVs, eqV] <;> (try intros) <;> omega) | (cases x; simp_all [exitOk, eqVs, eqV] <;> rfl) | (cases x; simp_all [exitOk, eqVs, eqV]; rw [Bool.eq_iff_iff]; simp [and_assoc]))
     ·exact resV (by first | (cases x; simp_all [exitOk, eqVs, eqV]; done) | (cases x; simp_all [exitOk, eqVs, eqV]; omega) | (cases x; simp_all [exitOk, eqVs, eqV] <;> (try intros) <;> omega) | (cases x; simp_all [exitOk, eqVs, eqV] <;> rfl) | (cases x; simp_all [exitOk, eqVs, eqV]; rw [Bool.eq_iff_iff]; simp [and_assoc]))
theorem impl_ExitOk_f (x : VExit) : Fun Tryz.prog 300 [A (rExit x)] (RV (.bool (exitOk x))) := by
 refine Fun.w 47 Tryz.func300 fun w g0 _ => ?_
 refine cnd (fun hb => ?_) (fun hb => ?_)
 ·refine cnd (fun hg3 => ?_) (fun hg3 => ?_)
  ·refine cnd (fun hg8 => ?_) (fun hg8 => ?_)
   ·exact resV (by first | (cases x; simp_all [exitOk, eqVs, eqV]; done) | (cases x; simp_all [exitOk, eqVs, eqV]; omega) | (cases x; simp_all [exitOk, eqVs, eqV] <;> (try intros) <;> omega) | (cases x; simp_all [exitOk, eqVs, eqV] <;> rfl) | (cases x; simp_all [exitOk, eqVs, eqV]; rw [Bool.eq_iff_iff]; simp [and_assoc]))
   ·exact resV (by first | (cases x; simp_all [exitOk, eqVs, eqV]; done) | (cases x; simp_all [exitOk, eqVs, eqV]; omega) | (cases x; simp_all [exitOk, eqVs, eqV] <;> (try intros) <;> omega) | (cases x; simp_all [exitOk, eqVs, eqV] <;> rfl) | (cases x; simp_all [exitOk, eqVs, eqV]; rw [Bool.eq_iff_iff]; simp [and_assoc]))
  ·exact resV (by first | (cases x; simp_all [exitOk, eqVs, eqV]; done) | (cases x; simp_all [exitOk, eqVs, eqV]; omega) | (cases x; simp_all [exitOk, eqVs, eqV] <;> (try intros) <;> omega) | (cases x; simp_all [exitOk, eqVs, eqV] <;> rfl) | (cases x; simp_all [exitOk, eqVs, eqV]; rw [Bool.eq_iff_iff]; simp [and_assoc]))
 ·refine cnd (fun hb2 => ?_) (fun hb2 => ?_)
  ·refine cnd (fun hg3 => ?_) (fun hg3 => ?_)
   ·refine cnd (fun hg8 => ?_) (fun hg8 => ?_)
    ·exact resV (by first | (cases x; simp_all [exitOk, eqVs, eqV]; done) | (cases x; simp_all [exitOk, eqVs, eqV]; omega) | (cases x; simp_all [exitOk, eqVs, eqV] <;> (try intros) <;> omega) | (cases x; simp_all [exitOk, eqVs, eqV] <;> rfl) | (cases x; simp_all [exitOk, eqVs, eqV]; rw [Bool.eq_iff_iff]; simp [and_assoc]))
    ·exact resV (by first | (cases x; simp_all [exitOk, eqVs, eqV]; done) | (cases x; simp_all [exitOk, eqVs, eqV]; omega) | (cases x; simp_all [exitOk, eqVs, eqV] <;> (try intros) <;> omega) | (cases x; simp_all [exitOk, eqVs, eqV] <;> rfl) | (cases x; simp_all [exitOk, eqVs, eqV]; rw [Bool.eq_iff_iff]; simp [and_assoc]))
   ·exact resV (by first | (cases x; simp_all [exitOk, eqVs, eqV]; done) | (cases x; simp_all [exitOk, eqVs, eqV]; omega) | (cases x; simp_all [exitOk, eqVs, eqV] <;> (try intros) <;> omega) | (cases x; simp_all [exitOk, eqVs, eqV] <;> rfl) | (cases x; simp_all [exitOk, eqVs, eqV]; rw [Bool.eq_iff_iff]; simp [and_assoc]))
  ·refine cnd (fun hb3 => ?_) (fun hb3 => ?_)
   ·refine callP (impl_within_f _ _ _).k ?_
    refine cnd (fun hg3 => ?_) (fun hg3 => ?_)
    ·exact resV (by first | (cases x; simp_all [exitOk, eqVs, eqV]; done) | (cases x; simp_all [exitOk, eqVs, eqV]; omega) | (cases x; simp_all [exitOk, eqVs, eqV] <;> (try intros) <;> omega) | (cases x; simp_all [exitOk, eqVs, eqV] <;> rfl) | (cases x; simp_all [exitOk, eqVs, eqV]; rw [Bool.eq_iff_iff]; simp [and_assoc]))
    ·exact resV (by first | (cases x; simp_all [exitOk, eqVs, eqV]; done) | (cases x; simp_all [exitOk, eqVs, eqV]; omega) | (cases x; simp_all [exitOk, eqVs, eqV] <;> (try intros) <;> omega) | (cases x; simp_all [exitOk, eqVs, eqV] <;> rfl) | (cases x; simp_all [exitOk, eqVs, eqV]; rw [Bool.eq_iff_iff]; simp [and_assoc]))
   ·refine cnd (fun hb4 => ?_) (fun hb4 => ?_)
    ·refine callP (impl_within_f _ _ _).k ?_
     refine cnd (fun hg3 => ?_) (fun hg3 => ?_)
     ·refine cnd (fun hg8 => ?_) (fun hg8 => ?_)
      ·exact resV (by first | (cases x; simp_all [exitOk, eqVs, eqV]; done) | (cases x; simp_all [exitOk, eqVs, eqV]; omega) | (cases x; simp_all [exitOk, eqVs, eqV] <;> (try intros) <;> omega) | (cases x; simp_all [exitOk, eqVs, eqV] <;> rfl) | (cases x; simp_all [exitOk, eqVs, eqV]; rw [Bool.eq_iff_iff]; simp [and_assoc]))
      ·exact resV (by first | (cases x; simp_all [exitOk, eqVs, eqV]; done) | (cases x; simp_all [exitOk, eqVs, eqV]; omega) | (cases x; simp_all [exitOk, eqVs, eqV] <;> (try intros) <;> omega) | (cases x; simp_all [exitOk, eqVs, eqV] <;> rfl) | (cases x; simp_all [exitOk, eqVs, eqV]; rw [Bool.eq_iff_iff]; simp [and_assoc]))
     ·exact resV (by first | (cases x; simp_all [exitOk, eqVs, eqV]; done) | (cases x; simp_all [exitOk, eqVs, eqV]; omega) | (cases x; simp_all [exitOk, eqVs, eqV] <;> (try intros) <;> omega) | (cases x; simp_all [exitOk, eqVs, eqV] <;> rfl) | (cases x; simp_all [exitOk, eqVs, eqV]; rw [Bool.eq_iff_iff]; simp [and_assoc]))
    ·refine cnd (fun hb5 => ?_) (fun hb5 => ?_)
     ·refine callP (impl_within_f _ _ _).k ?_
      refine cnd (fun hg3 => ?_) (fun hg3 => ?_)
      ·refine cnd (fun hg8 => ?_) (fun hg8 => ?_)
       ·exact resV (by first | (cases x; simp_all [exitOk, eqVs, eqV]; done) | (cases x; simp_all [exitOk, eqVs, eqV]; omega) | (cases x; simp_all [exitOk, eqVs, eqV] <;> (try intros) <;> omega) | (cases x; simp_all [exitOk, eqVs, eqV] <;> rfl) | (cases x; simp_all [exitOk, eqVs, eqV]; rw [Bool.eq_iff_iff]; simp [and_assoc]))
       ·exact resV (by first | (cases x; simp_all [exitOk, eqVs, eqV]; done) | (cases x; simp_all [exitOk, eqVs, eqV]; omega) | (cases x; simp_all [exitOk, eqVs, eqV] <;> (try intros) <;> omega) | (cases x; simp_all [exitOk, eqVs, eqV] <;> rfl) | (cases x; simp_all [exitOk, eqVs, eqV]; rw [Bool.eq_iff_iff]; simp [and_assoc]))
      ·exact resV (by first | (cases x; simp_all [exitOk, eqVs, eqV]; done) | (cases x; simp_all [exitOk, eqVs, eqV]; omega) | (cases x; simp_all [exitOk, eqVs, eqV] <;> (try intros) <;> omega) | (cases x; simp_all [exitOk, eqVs, eqV] <;> rfl) | (cases x; simp_all [exitOk, eqVs, eqV]; rw [Bool.eq_iff_iff]; simp [and_assoc]))
     ·exact resV (by first | (cases x; simp_all [exitOk, eqVs, eqV]; done) | (cases x; simp_all [exitOk, eqVs, eqV]; omega) | (cases x; simp_all [exitOk, eqVs, eqV] <;> (try intros) <;> omega) | (cases x; simp_all [exitOk, eqVs, eqV] <;> rfl) | (cases x; simp_all [exitOk, eqVs, eqV]; rw [Bool.eq_iff_iff]; simp [and_assoc]))
theorem spec_HasTrap_f (a : Int) (b : Int) : Fun Tryz.prog 410 [I a, I b] (RV (.bool (hasTrap a b))) := by
 refine Fun.w 17 Tryz.func410 fun w g0 _ => ?_
 refine callP (spec_l01In_f _ _ _).k ?_
 refine cnd (fun hg2 => ?_) (fun hg2 => ?_)
 ·refine callP (spec_l01In_f _ _ _).k ?_
  refine cnd (fun hg6 => ?_) (fun hg6 => ?_)
  ·exact resV (by first | (simp_all [hasTrap]; done) | (simp_all [hasTrap]; omega) | (simp_all [hasTrap] <;> (try intros) <;> omega) | (refine congrArg Value.bool ?_; rw [Bool.eq_iff_iff]; simp [hasTrap]; omega) | (simp_all [hasTrap] <;> rfl))
  ·exact resV (by first | (simp_all [hasTrap]; done) | (simp_all [hasTrap]; omega) | (simp_all [hasTrap] <;> (try intros) <;> omega) | (refine congrArg Value.bool ?_; rw [Bool.eq_iff_iff]; simp [hasTrap]; omega) | (simp_all [hasTrap] <;> rfl))
 ·exact resV (by first | (simp_all [hasTrap]; done) | (simp_all [hasTrap]; omega) | (simp_all [hasTrap] <;> (try intros) <;> omega) | (refine congrArg Value.bool ?_; rw [Bool.eq_iff_iff]; simp [hasTrap]; omega) | (simp_all [hasTrap] <;> rfl))
theorem impl_HasTrap_f (a : Int) (b : Int) : Fun Tryz.prog 421 [I a, I b] (RV (.bool (hasTrap a b))) := by
 refine Fun.w 21 Tryz.func421 fun w g0 _ => ?_
 refine callP (impl_within_f _ _ _).k ?_
 refine cnd (fun hg2 => ?_) (fun hg2 => ?_)
 ·refine cnd (fun hg5 => ?_) (fun hg5 => ?_)
  ·exact resV (by first | (simp_all [hasTrap]; done) | (simp_all [hasTrap]; omega) | (simp_all [hasTrap] <;> (try intros) <;> omega) | (refine congrArg Value.bool ?_; rw [Bool.eq_iff_iff]; simp [hasTrap]; omega) | (simp_all [hasTrap] <;> rfl))
  ·refine cnd (fun hg10 => ?_) (fun hg10 => ?_)
   ·exact resV (by first | (simp_all [hasTrap]; done) | (simp_all [hasTrap]; omega) | (simp_all [hasTrap] <;> (try intros) <;> omega) | (refine congrArg Value.bool ?_; rw [Bool.eq_iff_iff]; simp [hasTrap]; omega) | (simp_all [hasTrap] <;> rfl))
   ·exact resV (by first | (simp_all [hasTrap]; done) | (simp_all [hasTrap]; omega) | (simp_all [hasTrap] <;> (try intros) <;> omega) | (refine congrArg Value.bool ?_; rw [Bool.eq_iff_iff]; simp [hasTrap]; omega) | (simp_all [hasTrap] <;> rfl))
 ·exact resV (by first | (simp_all [hasTrap]; done) | (simp_all [hasTrap]; omega) | (simp_all [hasTrap] <;> (try intros) <;> omega) | (refine congrArg Value.bool ?_; rw [Bool.eq_iff_iff]; simp [hasTrap]; omega) | (simp_all [hasTrap] <;> rfl))
theorem spec_FaultExit_f (p : Int) (w : Bool) : Fun Tryz.prog 319 [I p, B w] (RP (A (rExit (faultExit p w)))) := by
 refine Fun.w 8 Tryz.func319 fun w g0 _ => ?_
 exact rfl
theorem impl_FaultExit_f (p : Int) (w : Bool) : Fun Tryz.prog 369 [I p, B w] (RP (A (rExit (faultExit p w)))) := by
 refine Fun.w 8 Tryz.func369 fun w g0 _ => ?_
 exact rfl
theorem spec_CallExit_f (n : Int) : Fun Tryz.prog 409 [I n] (RP (A (rExit (callExit n)))) := by
 refine Fun.w 5 Tryz.func409 fun w g0 _ => ?_
 exact rfl
theorem impl_CallExit_f (n : Int) : Fun Tryz.prog 420 [I n] (RP (A (rExit (callExit n)))) := by
 refine Fun.w 5 Tryz.func420 fun w g0 _ => ?_
 exact rfl
theorem spec_OutExit_f (n : Int) : Fun Tryz.prog 411 [I n] (RP (A (rExit (outExit n)))) := by
 refine Fun.w 5 Tryz.func411 fun w g0 _ => ?_
 exact rfl
theorem impl_OutExit_f (n : Int) : Fun Tryz.prog 457 [I n] (RP (A (rExit (outExit n)))) := by
 refine Fun.w 5 Tryz.func457 fun w g0 _ => ?_
 exact rfl
end Go.Proofs.YteelmdpahpggkaaGreat.T

