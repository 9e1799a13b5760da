/- Tables and memory changed, walks, both sides. PRINTED by gen3.py. No condition. -/
import Derived.Test.YteelmdpahpggkaaGreatNbp
namespace Go.Proofs.YteelmdpahpggkaaGreat.T
open Go
set_option linter.unusedVariables false
set_option linter.unusedSimpArgs false
set_option maxRecDepth 100000
set_option maxHeartbeats 1000000

theorem brought_in {n : Nat} (h : n ≤ 24) : brought n 0 24 = n := by unfold brought; rw [if_neg (by omega), if_neg (by omega)]
theorem spec_PageAt_f (m : List (List Int)) (n : Int) [Q (SmIntSS m)] : Fun Tryz.prog 219 [L 1 (m.map dIntS), I n] (RL 1 ((pageAt m n).map dInt)) := by
  refine Fun.w 18 Tryz.func219 fun w g0 hM => ?_
  have hl0 := hM.1.map
  refine len ?_
  refine rng ?_
  refine callP (spec_l01In_f _ _ _).k ?_
  refine cnd (fun hb => ?_) (fun hb => ?_)
  · refine mkw 4 ?_
    exact (by first | (rw [pageAt, at_out (by omega)]; rfl) | (rw [pageAt, at_in (by omega) (by assumption)]; rfl))
  · first | refine ixm (by assumption) ?_ | refine bnd ?_ | refine bndi ?_ | refine ixkq (fun y15 hy15 qy15 ly15 => ?_) | refine ixiq (fun y15 hy15 qy15 ly15 => ?_)
    first | refine ixs ?_ | refine ixo (by assumption) ?_ | refine ixoq (fun z1 hz1 qz1 lz1 => ?_) | skip
    first | refine appPq ?_ | refine appP ?_
    exact (by first | (rw [pageAt, at_out (by omega)]; rfl) | (rw [pageAt, at_in (by omega) (by assumption)]; rfl))

theorem impl_PageAt_f (m : List (List Int)) (n : Int) [Q (SmIntSS m)] : Fun Tryz.prog 222 [L 1 (m.map dIntS), I n] (RL 1 ((pageAt m n).map dInt)) := by
  refine Fun.w 16 Tryz.func222 fun w g0 hM => ?_
  have hl0 := hM.1.map
  refine len ?_
  refine callP (impl_has_f _ _).k ?_
  refine cnd (fun hb => ?_) (fun hb => ?_)
  · refine mkw 4 ?_
    exact (by first | (rw [pageAt, at_out (by omega)]; rfl) | (rw [pageAt, at_in (by omega) (by assumption)]; rfl))
  · first | refine ixm (by assumption) ?_ | refine bnd ?_ | refine bndi ?_ | refine ixkq (fun y13 hy13 qy13 ly13 => ?_) | refine ixiq (fun y13 hy13 qy13 ly13 => ?_)
    first | refine ixs ?_ | refine ixo (by assumption) ?_ | refine ixoq (fun z1 hz1 qz1 lz1 => ?_) | skip
    refine callL (impl_copyInts_f _).k ?_
    exact (by first | (rw [pageAt, at_out (by omega)]; rfl) | (rw [pageAt, at_in (by omega) (by assumption)]; rfl))

theorem spec_Brought_n {n : Nat} (h : n ≤ 24) : Fun Tryz.prog 170 [I n, I 0, I 24] (RV (.int .i64 n)) := by
  have h1 := spec_Brought_f n 0 24
  rwa [brought_in h] at h1
theorem impl_Brought_n {n : Nat} (h : n ≤ 24) : Fun Tryz.prog 174 [I n, I 0, I 24] (RV (.int .i64 n)) := by
  have h1 := impl_Brought_f n 0 24
  rwa [brought_in h] at h1
end Go.Proofs.YteelmdpahpggkaaGreat.T

