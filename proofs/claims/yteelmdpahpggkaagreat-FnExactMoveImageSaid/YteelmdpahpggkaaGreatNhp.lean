/- Plain steps and machines of their own, both sides. PRINTED by gen3.py. No condition. -/
import Derived.Test.YteelmdpahpggkaaGreatNgp
import Derived.Test.YteelmdpahpggkaaGreatRop
namespace Go.Proofs.YteelmdpahpggkaaGreat.T
open Go
set_option linter.unusedVariables false
set_option linter.unusedSimpArgs false
set_option maxRecDepth 100000
set_option maxHeartbeats 8000000

theorem spec_l17Guests_f (l : List VGuest) [Q (SmGuestS l)] : Fun Tryz.prog 182 [L 15 (l.map dGuest)] (RL 15 (l.map dGuest)) := by
  refine Fun.w 21 Tryz.func182 fun w g0 hM => ?_
  have hl0 := hM.1.map
  refine loopA [0, 2, 3] [3] [3] (fun (i : Nat) => [.set 4 (I i)]) (fun (i : Nat) => [(3, ⟨false, [.own (.sl 15 ((l.take i).map dGuest))]⟩)]) (fun (i : Nat) => i ≤ l.length) (fun (i : Nat) => l.length - i) (0) (Nat.zero_le _) ?_
  refine ⟨hda, fun i hyp N1 hN1 => ?_⟩
  have hyp : i ≤ l.length := hyp
  refine len ?_
  refine cnd (fun hb => ?_) (fun hb => ?_)
  · first | refine ixm (by assumption) ?_ | refine bnd ?_ | refine bndi ?_ | refine ixkq (fun y15 hy15 qy15 ly15 => ?_) | refine ixiq (fun y15 hy15 qy15 ly15 => ?_)
    first | refine ixs ?_ | refine ixo (by assumption) ?_ | refine ixoq (fun z1 hz1 qz1 lz1 => ?_) | skip
    refine callG (spec_l15Copy_f _).k ?_
    first | refine appOq ?_ | refine appO ?_
    refine rng ?_
    refine hN1 _ _ _ ?_
    refine nxa (i + 1) (by omega)
  · refine hN1 _ _ _ ?_
    exact (by rw [List.take_of_length_le (by omega)]; rfl)

theorem impl_copyGuests_f (l : List VGuest) [Q (SmGuestS l)] : Fun Tryz.prog 82 [L 15 (l.map dGuest)] (RL 15 (l.map dGuest)) := by
  refine Fun.w 20 Tryz.func82 fun w g0 hM => ?_
  have hl0 := hM.1.map
  refine len ?_
  refine loopA [2, 3, 7, 8] [3] [3] (fun (i : Nat) => [.set 9 (I i)]) (fun (i : Nat) => [(3, ⟨false, [.own (.sl 15 ((l.take i).map dGuest))]⟩)]) (fun (i : Nat) => i ≤ l.length) (fun (i : Nat) => l.length - i) (0) (Nat.zero_le _) ?_
  refine ⟨hda, fun i hyp N1 hN1 => ?_⟩
  have hyp : i ≤ l.length := hyp
  refine cnd (fun hb => ?_) (fun hb => ?_)
  · first | refine ixm (by assumption) ?_ | refine bnd ?_ | refine bndi ?_ | refine ixkq (fun y11 hy11 qy11 ly11 => ?_) | refine ixiq (fun y11 hy11 qy11 ly11 => ?_)
    first | refine ixs ?_ | refine ixo (by assumption) ?_ | refine ixoq (fun z1 hz1 qz1 lz1 => ?_) | skip
    refine callG (impl_copyGuest_f _).k ?_
    first | refine appOq ?_ | refine appO ?_
    refine rng ?_
    refine hN1 _ _ _ ?_
    refine nxa (i + 1) (by omega)
  · refine hN1 _ _ _ ?_
    exact (by rw [List.take_of_length_le (by omega)]; rfl)

end Go.Proofs.YteelmdpahpggkaaGreat.T

