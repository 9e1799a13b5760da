/- Copies of hosts, both sides. PRINTED by gen3.py. No condition. -/
import Derived.Test.YteelmdpahpggkaaGreatNjp
namespace Go.Proofs.YteelmdpahpggkaaGreat.T
open Go
set_option linter.unusedVariables false
set_option linter.unusedSimpArgs false
set_option maxRecDepth 100000
set_option maxHeartbeats 8000000

theorem spec_l21Mon_f (x : VMon) [Q (SmMon x)] : Fun Tryz.prog 105 [A (rMon x)] (RG [.a (rMon x)]) := by
  refine Fun.w 48 Tryz.func105 fun w g0 hM => ?_
  have hl0 := hM.1.2.2.2.2.2.2.2.1.map
  first | refine appPq ?_ | refine appP ?_
  refine callL (spec_l04Copy_f _).k ?_
  first | refine appPq ?_ | refine appP ?_
  refine callL (spec_l17Guests_f _).k ?_
  first | refine appPq ?_ | refine appP ?_
  refine loopA [1, 2, 3] [3] [3] (fun (i : Nat) => [.set 4 (I i)]) (fun (i : Nat) => [(3, ⟨false, [.own (.sl 2 ((x.Tables.take i).map dKept))]⟩)]) (fun (i : Nat) => i ≤ x.Tables.length) (fun (i : Nat) => x.Tables.length - i) (0) (Nat.zero_le _) ?_
  refine ⟨hda, fun i hyp N1 hN1 => ?_⟩
  have hyp : i ≤ x.Tables.length := hyp
  refine len ?_
  refine cnd (fun hb => ?_) (fun hb => ?_)
  · first | refine ixm (by assumption) ?_ | refine bnd ?_ | refine bndi ?_ | refine ixkq (fun y40 hy40 qy40 ly40 => ?_) | refine ixiq (fun y40 hy40 qy40 ly40 => ?_)
    first | refine ixs ?_ | refine ixo (by assumption) ?_ | refine ixoq (fun z1 hz1 qz1 lz1 => ?_) | skip
    refine callG (spec_l07Copy_f _).k ?_
    first | refine appOq ?_ | refine appO ?_
    refine rng ?_
    refine hN1 _ _ _ ?_
    refine nxa (i + 1) (by omega)
  · refine hN1 _ _ _ ?_
    exact (by rw [List.take_of_length_le (by omega)]; rfl)

theorem impl_copyMon_f (x : VMon) [Q (SmMon x)] : Fun Tryz.prog 117 [A (rMon x)] (RG [.a (rMon x)]) := by
  refine Fun.w 44 Tryz.func117 fun w g0 hM => ?_
  have hl0 := hM.1.2.2.2.2.2.2.2.1.map
  refine callL (impl_copyTable_f _).k ?_
  refine callL (impl_copyMem_f _).k ?_
  first | refine appPq ?_ | refine appP ?_
  refine callL (impl_copyGuests_f _).k ?_
  refine callL (impl_copyInts_f _).k ?_
  refine len ?_
  refine loopA [1, 2, 3, 29, 30] [3] [3] (fun (i : Nat) => [.set 31 (I i)]) (fun (i : Nat) => [(3, ⟨false, [.own (.sl 2 ((x.Tables.take i).map dKept))]⟩)]) (fun (i : Nat) => i ≤ x.Tables.length) (fun (i : Nat) => x.Tables.length - i) (0) (Nat.zero_le _) ?_
  refine ⟨hda, fun i hyp N1 hN1 => ?_⟩
  have hyp : i ≤ x.Tables.length := hyp
  refine cnd (fun hb => ?_) (fun hb => ?_)
  · first | refine ixm (by assumption) ?_ | refine bnd ?_ | refine bndi ?_ | refine ixkq (fun y33 hy33 qy33 ly33 => ?_) | refine ixiq (fun y33 hy33 qy33 ly33 => ?_)
    first | refine ixs ?_ | refine ixo (by assumption) ?_ | refine ixoq (fun z1 hz1 qz1 lz1 => ?_) | skip
    refine callG (impl_copyKept_f _).k ?_
    first | refine appOq ?_ | refine appO ?_
    refine rng ?_
    refine hN1 _ _ _ ?_
    refine nxa (i + 1) (by omega)
  · refine hN1 _ _ _ ?_
    exact (by rw [List.take_of_length_le (by omega)]; rfl)

end Go.Proofs.YteelmdpahpggkaaGreat.T

