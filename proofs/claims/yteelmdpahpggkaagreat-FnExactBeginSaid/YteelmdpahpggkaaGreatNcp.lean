/- Tables and memory changed, walks, both sides. PRINTED by gen3.py. No condition. -/
import Derived.Test.YteelmdpahpggkaaGreatNbp
namespace Go.Proofs.YteelmdpahpggkaaGreat.T
open Go
set_option linter.unusedVariables false
set_option linter.unusedSimpArgs false
set_option maxRecDepth 100000
set_option maxHeartbeats 1000000

theorem brought_in {n : Nat} (h : n ≤ 24) : brought n 0 24 = n := by unfold brought; rw [if_neg (by omega), if_neg (by omega)]
theorem spec_Brought_n {n : Nat} (h : n ≤ 24) : Fun Tryz.prog 170 [I n, I 0, I 24] (RV (.int .i64 n)) := by
  have h1 := spec_Brought_f n 0 24
  rwa [brought_in h] at h1
theorem spec_MemNew_f (n : Nat) (hn : n ≤ 24 := by omega) : Fun Tryz.prog 73 [I n] (RL 1 ((memNew n).map dIntS)) := by
  refine Fun.w 17 Tryz.func73 fun w g0 _ => ?_
  refine callP (spec_Brought_n hn).k ?_
  refine loopA [2, 3, 16] [3] [3] (fun (i : Nat) => [.set 4 (I ((n : Int) - i))]) (fun (i : Nat) => [(3, ⟨false, [.own (.sl 1 ((List.replicate i [0, 0, 0, 0]).map dIntS))]⟩)]) (fun (i : Nat) => i ≤ n) (fun (i : Nat) => n - i) (0) (Nat.zero_le _) ?_
  refine ⟨hda, fun i hyp N1 hN1 => ?_⟩
  have hyp : i ≤ n := hyp
  refine cnd (fun hb => ?_) (fun hb => ?_)
  · refine mkw 4 ?_
    first | refine appOq ?_ | refine appO ?_
    refine rng ?_
    refine hN1 _ _ _ ?_
    refine nxa (i + 1) (by omega) (by repeat' first | exact rfl | refine And.intro ?_ ?_ | exact True.intro | (refine eqS ?_; simp [List.take_add_one, List.set_set, rangeF_succ, List.replicate_succ', *]; done) | (refine eqS ?_; exact congrArg (fun z : Int => (I z : TS)) (by omega)))
  · refine hN1 _ _ _ ?_
    exact (by rw [show i = n by omega]; rfl)

theorem impl_Brought_n {n : Nat} (h : n ≤ 24) : Fun Tryz.prog 174 [I n, I 0, I 24] (RV (.int .i64 n)) := by
  have h1 := impl_Brought_f n 0 24
  rwa [brought_in h] at h1
theorem impl_MemNew_f (n : Nat) (hn : n ≤ 24 := by omega) : Fun Tryz.prog 79 [I n] (RL 1 ((memNew n).map dIntS)) := by
  refine Fun.w 17 Tryz.func79 fun w g0 _ => ?_
  refine loopA [0, 2, 3, 16] [3] [3] (fun (i : Nat) => [.set 4 (I i)]) (fun (i : Nat) => [(3, ⟨false, [.own (.sl 1 ((List.replicate i [0, 0, 0, 0]).map dIntS))]⟩)]) (fun (i : Nat) => i ≤ n) (fun (i : Nat) => n - i) (0) (Nat.zero_le _) ?_
  refine ⟨hda, fun i hyp N1 hN1 => ?_⟩
  have hyp : i ≤ n := hyp
  refine callP (impl_Brought_n hn).k ?_
  refine cnd (fun hb => ?_) (fun hb => ?_)
  · refine mkw 4 ?_
    first | refine appOq ?_ | refine appO ?_
    refine rng ?_
    refine hN1 _ _ _ ?_
    refine nxa (i + 1) (by omega) (by repeat' first | exact rfl | refine And.intro ?_ ?_ | exact True.intro | (refine eqS ?_; simp [List.take_add_one, List.set_set, rangeF_succ, List.replicate_succ', *]; done) | (refine eqS ?_; exact congrArg (fun z : Int => (I z : TS)) (by omega)))
  · refine hN1 _ _ _ ?_
    exact (by rw [show i = n by omega]; rfl)
end Go.Proofs.YteelmdpahpggkaaGreat.T

