/- Copies of hosts, both sides. PRINTED by gen3.py. No condition. -/
import Derived.Test.YteelmdpahpggkaaGreatNjp
import Derived.Test.YteelmdpahpggkaaGreatRows
import Derived.Shelf.Lays
import Derived.Shelf.Bits.Mul64
namespace Go.Proofs.YteelmdpahpggkaaGreat.T
open Go
set_option linter.unusedVariables false
set_option linter.unusedSimpArgs false
set_option maxRecDepth 100000
set_option maxHeartbeats 8000000

theorem spec_l21Mon_f (x : VMon) [Q (SmMon x)] : Fun Tryz.prog 105 [A (rMon x)] (RG [.a (rMon x)]) := by
  refine Fun.w 48 Tryz.func105 fun w g0 hM => ?_
  have hl0 := hM.1.2.2.2.2.2.2.2.1.map
  first | refine appPq ?_ | refine appP ?_
  refine callL (spec_l04Copy_f _).k ?_
  first | refine appPq ?_ | refine appP ?_
  refine callL (spec_l17Guests_f _).k ?_
  first | refine appPq ?_ | refine appP ?_
  refine loopA [1, 2, 3] [3] [3] (fun (i : Nat) => [.set 4 (I i)]) (fun (i : Nat) => [(3, ⟨false, [.own (.sl 2 ((x.Tables.take i).map dKept))]⟩)]) (fun (i : Nat) => i ≤ x.Tables.length) (fun (i : Nat) => x.Tables.length - i) (0) (Nat.zero_le _) ?_
  refine ⟨hda, fun i hyp N1 hN1 => ?_⟩
  have hyp : i ≤ x.Tables.length := hyp
  refine len ?_
  refine cnd (fun hb => ?_) (fun hb => ?_)
  · first | refine ixm (by assumption) ?_ | refine bnd ?_ | refine bndi ?_ | refine ixkq (fun y40 hy40 qy40 ly40 => ?_) | refine ixiq (fun y40 hy40 qy40 ly40 => ?_)
    first | refine ixs ?_ | refine ixo (by assumption) ?_ | refine ixoq (fun z1 hz1 qz1 lz1 => ?_) | skip
    refine callG (spec_l07Copy_f _).k ?_
    first | refine appOq ?_ | refine appO ?_
    refine rng ?_
    refine hN1 _ _ _ ?_
    refine nxa (i + 1) (by omega)
  · refine hN1 _ _ _ ?_
    exact (by rw [List.take_of_length_le (by omega)]; rfl)

theorem impl_copyMon_f (x : VMon) [Q (SmMon x)] : Fun Tryz.prog 117 [A (rMon x)] (RG [.a (rMon x)]) := by
  refine Fun.w 44 Tryz.func117 fun w g0 hM => ?_
  have hl0 := hM.1.2.2.2.2.2.2.2.1.map
  refine callL (impl_copyTable_f _).k ?_
  refine callL (impl_copyMem_f _).k ?_
  first | refine appPq ?_ | refine appP ?_
  refine callL (impl_copyGuests_f _).k ?_
  refine callL (impl_copyInts_f _).k ?_
  refine len ?_
  refine loopA [1, 2, 3, 29, 30] [3] [3] (fun (i : Nat) => [.set 31 (I i)]) (fun (i : Nat) => [(3, ⟨false, [.own (.sl 2 ((x.Tables.take i).map dKept))]⟩)]) (fun (i : Nat) => i ≤ x.Tables.length) (fun (i : Nat) => x.Tables.length - i) (0) (Nat.zero_le _) ?_
  refine ⟨hda, fun i hyp N1 hN1 => ?_⟩
  have hyp : i ≤ x.Tables.length := hyp
  refine cnd (fun hb => ?_) (fun hb => ?_)
  · first | refine ixm (by assumption) ?_ | refine bnd ?_ | refine bndi ?_ | refine ixkq (fun y33 hy33 qy33 ly33 => ?_) | refine ixiq (fun y33 hy33 qy33 ly33 => ?_)
    first | refine ixs ?_ | refine ixo (by assumption) ?_ | refine ixoq (fun z1 hz1 qz1 lz1 => ?_) | skip
    refine callG (impl_copyKept_f _).k ?_
    first | refine appOq ?_ | refine appO ?_
    refine rng ?_
    refine hN1 _ _ _ ?_
    refine nxa (i + 1) (by omega)
  · refine hN1 _ _ _ ?_
    exact (by rw [List.take_of_length_le (by omega)]; rfl)

theorem spec_l21Copy_f (h : VHost) [Q (SmHost h)] : Fun Tryz.prog 101 [A (rHost h)] (RG [.a (rHost h)]) := by
  refine Fun.w 36 Tryz.func101 fun w g0 hM => ?_
  have hl0 := hM.1.2.1.map
  refine regTJ [6, 10, 13] [6, 10] [1] (.quiet 0 0 (.quiet 1 0 (.quiet 4 0 (.quiet 5 0 (.quiet 8 1 (.quiet 9 1 (.fork (.alt 2 (.fork (.alt 3 (.fork (.alt 6 (.fork (.alt 7 (.fork (.alt 10 (.fork (.alt 11 (.fork (.alt 12 (.fork (.alt 13 .done .stop)) .stop)) (.alt 12 (.fork (.alt 11 (.fork (.alt 13 .done .stop)) .stop)) .stop))) (.alt 12 (.fork (.alt 10 (.fork (.alt 11 (.fork (.alt 13 .done .stop)) .stop)) .stop)) .stop))) (.alt 12 (.fork (.alt 7 (.fork (.alt 10 (.fork (.alt 11 (.fork (.alt 13 .done .stop)) .stop)) .stop)) .stop)) .stop))) (.alt 7 (.fork (.alt 6 (.fork (.alt 10 (.fork (.alt 11 (.fork (.alt 12 (.fork (.alt 13 .done .stop)) .stop)) (.alt 12 (.fork (.alt 11 (.fork (.alt 13 .done .stop)) .stop)) .stop))) (.alt 12 (.fork (.alt 10 (.fork (.alt 11 (.fork (.alt 13 .done .stop)) .stop)) .stop)) .stop))) (.alt 12 (.fork (.alt 6 (.fork (.alt 10 (.fork (.alt 11 (.fork (.alt 13 .done .stop)) .stop)) .stop)) .stop)) .stop))) (.alt 12 (.fork (.alt 6 (.fork (.alt 7 (.fork (.alt 10 (.fork (.alt 11 (.fork (.alt 13 .done .stop)) .stop)) .stop)) .stop)) (.alt 7 (.fork (.alt 6 (.fork (.alt 10 (.fork (.alt 11 (.fork (.alt 13 .done .stop)) .stop)) .stop)) .stop)) .stop))) .stop)))) (.alt 7 (.fork (.alt 3 (.fork (.alt 6 (.fork (.alt 10 (.fork (.alt 11 (.fork (.alt 12 (.fork (.alt 13 .done .stop)) .stop)) (.alt 12 (.fork (.alt 11 (.fork (.alt 13 .done .stop)) .stop)) .stop))) (.alt 12 (.fork (.alt 10 (.fork (.alt 11 (.fork (.alt 13 .done .stop)) .stop)) .stop)) .stop))) (.alt 12 (.fork (.alt 6 (.fork (.alt 10 (.fork (.alt 11 (.fork (.alt 13 .done .stop)) .stop)) .stop)) .stop)) .stop))) (.alt 12 (.fork (.alt 3 (.fork (.alt 6 (.fork (.alt 10 (.fork (.alt 11 (.fork (.alt 13 .done .stop)) .stop)) .stop)) .stop)) .stop)) .stop))) (.alt 12 (.fork (.alt 3 (.fork (.alt 6 (.fork (.alt 7 (.fork (.alt 10 (.fork (.alt 11 (.fork (.alt 13 .done .stop)) .stop)) .stop)) .stop)) (.alt 7 (.fork (.alt 6 (.fork (.alt 10 (.fork (.alt 11 (.fork (.alt 13 .done .stop)) .stop)) .stop)) .stop)) .stop))) (.alt 7 (.fork (.alt 3 (.fork (.alt 6 (.fork (.alt 10 (.fork (.alt 11 (.fork (.alt 13 .done .stop)) .stop)) .stop)) .stop)) .stop)) .stop))) .stop)))) (.alt 3 (.fork (.alt 2 (.fork (.alt 6 (.fork (.alt 7 (.fork (.alt 10 (.fork (.alt 11 (.fork (.alt 12 (.fork (.alt 13 .done .stop)) .stop)) (.alt 12 (.fork (.alt 11 (.fork (.alt 13 .done .stop)) .stop)) .stop))) (.alt 12 (.fork (.alt 10 (.fork (.alt 11 (.fork (.alt 13 .done .stop)) .stop)) .stop)) .stop))) (.alt 12 (.fork (.alt 7 (.fork (.alt 10 (.fork (.alt 11 (.fork (.alt 13 .done .stop)) .stop)) .stop)) .stop)) .stop))) (.alt 7 (.fork (.alt 6 (.fork (.alt 10 (.fork (.alt 11 (.fork (.alt 12 (.fork (.alt 13 .done .stop)) .stop)) (.alt 12 (.fork (.alt 11 (.fork (.alt 13 .done .stop)) .stop)) .stop))) (.alt 12 (.fork (.alt 10 (.fork (.alt 11 (.fork (.alt 13 .done .stop)) .stop)) .stop)) .stop))) (.alt 12 (.fork (.alt 6 (.fork (.alt 10 (.fork (.alt 11 (.fork (.alt 13 .done .stop)) .stop)) .stop)) .stop)) .stop))) (.alt 12 (.fork (.alt 6 (.fork (.alt 7 (.fork (.alt 10 (.fork (.alt 11 (.fork (.alt 13 .done .stop)) .stop)) .stop)) .stop)) (.alt 7 (.fork (.alt 6 (.fork (.alt 10 (.fork (.alt 11 (.fork (.alt 13 .done .stop)) .stop)) .stop)) .stop)) .stop))) .stop)))) (.alt 7 (.fork (.alt 2 (.fork (.alt 6 (.fork (.alt 10 (.fork (.alt 11 (.fork (.alt 12 (.fork (.alt 13 .done .stop)) .stop)) (.alt 12 (.fork (.alt 11 (.fork (.alt 13 .done .stop)) .stop)) .stop))) (.alt 12 (.fork (.alt 10 (.fork (.alt 11 (.fork (.alt 13 .done .stop)) .stop)) .stop)) .stop))) (.alt 12 (.fork (.alt 6 (.fork (.alt 10 (.fork (.alt 11 (.fork (.alt 13 .done .stop)) .stop)) .stop)) .stop)) .stop))) (.alt 12 (.fork (.alt 2 (.fork (.alt 6 (.fork (.alt 10 (.fork (.alt 11 (.fork (.alt 13 .done .stop)) .stop)) .stop)) .stop)) .stop)) .stop))) (.alt 12 (.fork (.alt 2 (.fork (.alt 6 (.fork (.alt 7 (.fork (.alt 10 (.fork (.alt 11 (.fork (.alt 13 .done .stop)) .stop)) .stop)) .stop)) (.alt 7 (.fork (.alt 6 (.fork (.alt 10 (.fork (.alt 11 (.fork (.alt 13 .done .stop)) .stop)) .stop)) .stop)) .stop))) (.alt 7 (.fork (.alt 2 (.fork (.alt 6 (.fork (.alt 10 (.fork (.alt 11 (.fork (.alt 13 .done .stop)) .stop)) .stop)) .stop)) .stop)) .stop))) .stop)))) (.alt 7 (.fork (.alt 2 (.fork (.alt 3 (.fork (.alt 6 (.fork (.alt 10 (.fork (.alt 11 (.fork (.alt 12 (.fork (.alt 13 .done .stop)) .stop)) (.alt 12 (.fork (.alt 11 (.fork (.alt 13 .done .stop)) .stop)) .stop))) (.alt 12 (.fork (.alt 10 (.fork (.alt 11 (.fork (.alt 13 .done .stop)) .stop)) .stop)) .stop))) (.alt 12 (.fork (.alt 6 (.fork (.alt 10 (.fork (.alt 11 (.fork (.alt 13 .done .stop)) .stop)) .stop)) .stop)) .stop))) (.alt 12 (.fork (.alt 3 (.fork (.alt 6 (.fork (.alt 10 (.fork (.alt 11 (.fork (.alt 13 .done .stop)) .stop)) .stop)) .stop)) .stop)) .stop))) (.alt 3 (.fork (.alt 2 (.fork (.alt 6 (.fork (.alt 10 (.fork (.alt 11 (.fork (.alt 12 (.fork (.alt 13 .done .stop)) .stop)) (.alt 12 (.fork (.alt 11 (.fork (.alt 13 .done .stop)) .stop)) .stop))) (.alt 12 (.fork (.alt 10 (.fork (.alt 11 (.fork (.alt 13 .done .stop)) .stop)) .stop)) .stop))) (.alt 12 (.fork (.alt 6 (.fork (.alt 10 (.fork (.alt 11 (.fork (.alt 13 .done .stop)) .stop)) .stop)) .stop)) .stop))) (.alt 12 (.fork (.alt 2 (.fork (.alt 6 (.fork (.alt 10 (.fork (.alt 11 (.fork (.alt 13 .done .stop)) .stop)) .stop)) .stop)) .stop)) .stop))) (.alt 12 (.fork (.alt 2 (.fork (.alt 3 (.fork (.alt 6 (.fork (.alt 10 (.fork (.alt 11 (.fork (.alt 13 .done .stop)) .stop)) .stop)) .stop)) .stop)) (.alt 3 (.fork (.alt 2 (.fork (.alt 6 (.fork (.alt 10 (.fork (.alt 11 (.fork (.alt 13 .done .stop)) .stop)) .stop)) .stop)) .stop)) .stop))) .stop)))) (.alt 12 (.fork (.alt 2 (.fork (.alt 3 (.fork (.alt 6 (.fork (.alt 7 (.fork (.alt 10 (.fork (.alt 11 (.fork (.alt 13 .done .stop)) .stop)) .stop)) .stop)) (.alt 7 (.fork (.alt 6 (.fork (.alt 10 (.fork (.alt 11 (.fork (.alt 13 .done .stop)) .stop)) .stop)) .stop)) .stop))) (.alt 7 (.fork (.alt 3 (.fork (.alt 6 (.fork (.alt 10 (.fork (.alt 11 (.fork (.alt 13 .done .stop)) .stop)) .stop)) .stop)) .stop)) .stop))) (.alt 3 (.fork (.alt 2 (.fork (.alt 6 (.fork (.alt 7 (.fork (.alt 10 (.fork (.alt 11 (.fork (.alt 13 .done .stop)) .stop)) .stop)) .stop)) (.alt 7 (.fork (.alt 6 (.fork (.alt 10 (.fork (.alt 11 (.fork (.alt 13 .done .stop)) .stop)) .stop)) .stop)) .stop))) (.alt 7 (.fork (.alt 2 (.fork (.alt 6 (.fork (.alt 10 (.fork (.alt 11 (.fork (.alt 13 .done .stop)) .stop)) .stop)) .stop)) .stop)) .stop))) (.alt 7 (.fork (.alt 2 (.fork (.alt 3 (.fork (.alt 6 (.fork (.alt 10 (.fork (.alt 11 (.fork (.alt 13 .done .stop)) .stop)) .stop)) .stop)) .stop)) (.alt 3 (.fork (.alt 2 (.fork (.alt 6 (.fork (.alt 10 (.fork (.alt 11 (.fork (.alt 13 .done .stop)) .stop)) .stop)) .stop)) .stop)) .stop))) .stop)))) .stop))))))))))) [1, 2] [] [3] [.set 3 (.one (.ptr ⟨3, [], 0⟩))] [(3, ⟨true, [.own (.sl 1 (h.Memory.map dIntS)), .own (.sl 9 ([])), .own (.sl 4 (h.Buffer.map dEntry)), .own (.sl 4 (h.IoBuffer.map dEntry))]⟩)] ?_
  refine ⟨?_, ?_⟩
  · repeat' first | exact True.intro | refine And.intro ?_ ?_ | (intro _ _) | refine callL (spec_l04Copy_f _).k ?_ | refine appPq ?_ | refine appP ?_ | exact rfl | (refine eqS ?_; simp [*]; done)
  refine loopA [1, 2, 3] [] [3] (fun (i : Nat) => [.set 4 (I i)]) (fun (i : Nat) => [(3, ⟨true, [.own (.sl 1 (h.Memory.map dIntS)), .own (.sl 9 ((h.Mons.take i).map dMon)), .own (.sl 4 (h.Buffer.map dEntry)), .own (.sl 4 (h.IoBuffer.map dEntry))]⟩)]) (fun (i : Nat) => i ≤ h.Mons.length) (fun (i : Nat) => h.Mons.length - i) (0) (Nat.zero_le _) ?_
  refine ⟨hda, fun i hyp N1 hN1 => ?_⟩
  have hyp : i ≤ h.Mons.length := hyp
  refine len ?_
  refine cnd (fun hb => ?_) (fun hb => ?_)
  · refine regU [9, 11] [(0, 0), (1, 0), (2, 0), (3, 0), (4, 0), (5, 0), (6, 0), (7, 1), (8, 1), (9, 1), (10, 0), (11, 1)] ?_
    first | refine ixm (by assumption) ?_ | refine bnd ?_ | refine bndi ?_ | refine ixkq (fun y29 hy29 qy29 ly29 => ?_) | refine ixiq (fun y29 hy29 qy29 ly29 => ?_)
    first | refine ixs ?_ | refine ixo (by assumption) ?_ | refine ixoq (fun z1 hz1 qz1 lz1 => ?_) | skip
    refine callG (spec_l21Mon_f _).k ?_
    first | refine appOq ?_ | refine appO ?_
    refine rng ?_
    refine hN1 _ _ _ ?_
    refine nxa (i + 1) (by omega)
  · refine hN1 _ _ _ ?_
    exact (by rw [List.take_of_length_le (by omega)]; rfl)

theorem impl_copyHost_f (h : VHost) [Q (SmHost h)] : Fun Tryz.prog 113 [A (rHost h)] (RG [.a (rHost h)]) := by
  refine Fun.w 34 Tryz.func113 fun w g0 hM => ?_
  have hl0 := hM.1.2.1.map
  refine regTJ [6, 10, 13] [6, 10] [1] (.quiet 0 0 (.quiet 1 0 (.quiet 4 0 (.quiet 5 0 (.quiet 8 1 (.quiet 9 1 (.fork (.alt 2 (.fork (.alt 3 (.fork (.alt 6 (.fork (.alt 7 (.fork (.alt 10 (.fork (.alt 11 (.fork (.alt 12 (.fork (.alt 13 .done .stop)) .stop)) (.alt 12 (.fork (.alt 11 (.fork (.alt 13 .done .stop)) .stop)) .stop))) (.alt 12 (.fork (.alt 10 (.fork (.alt 11 (.fork (.alt 13 .done .stop)) .stop)) .stop)) .stop))) (.alt 12 (.fork (.alt 7 (.fork (.alt 10 (.fork (.alt 11 (.fork (.alt 13 .done .stop)) .stop)) .stop)) .stop)) .stop))) (.alt 7 (.fork (.alt 6 (.fork (.alt 10 (.fork (.alt 11 (.fork (.alt 12 (.fork (.alt 13 .done .stop)) .stop)) (.alt 12 (.fork (.alt 11 (.fork (.alt 13 .done .stop)) .stop)) .stop))) (.alt 12 (.fork (.alt 10 (.fork (.alt 11 (.fork (.alt 13 .done .stop)) .stop)) .stop)) .stop))) (.alt 12 (.fork (.alt 6 (.fork (.alt 10 (.fork (.alt 11 (.fork (.alt 13 .done .stop)) .stop)) .stop)) .stop)) .stop))) (.alt 12 (.fork (.alt 6 (.fork (.alt 7 (.fork (.alt 10 (.fork (.alt 11 (.fork (.alt 13 .done .stop)) .stop)) .stop)) .stop)) (.alt 7 (.fork (.alt 6 (.fork (.alt 10 (.fork (.alt 11 (.fork (.alt 13 .done .stop)) .stop)) .stop)) .stop)) .stop))) .stop)))) (.alt 7 (.fork (.alt 3 (.fork (.alt 6 (.fork (.alt 10 (.fork (.alt 11 (.fork (.alt 12 (.fork (.alt 13 .done .stop)) .stop)) (.alt 12 (.fork (.alt 11 (.fork (.alt 13 .done .stop)) .stop)) .stop))) (.alt 12 (.fork (.alt 10 (.fork (.alt 11 (.fork (.alt 13 .done .stop)) .stop)) .stop)) .stop))) (.alt 12 (.fork (.alt 6 (.fork (.alt 10 (.fork (.alt 11 (.fork (.alt 13 .done .stop)) .stop)) .stop)) .stop)) .stop))) (.alt 12 (.fork (.alt 3 (.fork (.alt 6 (.fork (.alt 10 (.fork (.alt 11 (.fork (.alt 13 .done .stop)) .stop)) .stop)) .stop)) .stop)) .stop))) (.alt 12 (.fork (.alt 3 (.fork (.alt 6 (.fork (.alt 7 (.fork (.alt 10 (.fork (.alt 11 (.fork (.alt 13 .done .stop)) .stop)) .stop)) .stop)) (.alt 7 (.fork (.alt 6 (.fork (.alt 10 (.fork (.alt 11 (.fork (.alt 13 .done .stop)) .stop)) .stop)) .stop)) .stop))) (.alt 7 (.fork (.alt 3 (.fork (.alt 6 (.fork (.alt 10 (.fork (.alt 11 (.fork (.alt 13 .done .stop)) .stop)) .stop)) .stop)) .stop)) .stop))) .stop)))) (.alt 3 (.fork (.alt 2 (.fork (.alt 6 (.fork (.alt 7 (.fork (.alt 10 (.fork (.alt 11 (.fork (.alt 12 (.fork (.alt 13 .done .stop)) .stop)) (.alt 12 (.fork (.alt 11 (.fork (.alt 13 .done .stop)) .stop)) .stop))) (.alt 12 (.fork (.alt 10 (.fork (.alt 11 (.fork (.alt 13 .done .stop)) .stop)) .stop)) .stop))) (.alt 12 (.fork (.alt 7 (.fork (.alt 10 (.fork (.alt 11 (.fork (.alt 13 .done .stop)) .stop)) .stop)) .stop)) .stop))) (.alt 7 (.fork (.alt 6 (.fork (.alt 10 (.fork (.alt 11 (.fork (.alt 12 (.fork (.alt 13 .done .stop)) .stop)) (.alt 12 (.fork (.alt 11 (.fork (.alt 13 .done .stop)) .stop)) .stop))) (.alt 12 (.fork (.alt 10 (.fork (.alt 11 (.fork (.alt 13 .done .stop)) .stop)) .stop)) .stop))) (.alt 12 (.fork (.alt 6 (.fork (.alt 10 (.fork (.alt 11 (.fork (.alt 13 .done .stop)) .stop)) .stop)) .stop)) .stop))) (.alt 12 (.fork (.alt 6 (.fork (.alt 7 (.fork (.alt 10 (.fork (.alt 11 (.fork (.alt 13 .done .stop)) .stop)) .stop)) .stop)) (.alt 7 (.fork (.alt 6 (.fork (.alt 10 (.fork (.alt 11 (.fork (.alt 13 .done .stop)) .stop)) .stop)) .stop)) .stop))) .stop)))) (.alt 7 (.fork (.alt 2 (.fork (.alt 6 (.fork (.alt 10 (.fork (.alt 11 (.fork (.alt 12 (.fork (.alt 13 .done .stop)) .stop)) (.alt 12 (.fork (.alt 11 (.fork (.alt 13 .done .stop)) .stop)) .stop))) (.alt 12 (.fork (.alt 10 (.fork (.alt 11 (.fork (.alt 13 .done .stop)) .stop)) .stop)) .stop))) (.alt 12 (.fork (.alt 6 (.fork (.alt 10 (.fork (.alt 11 (.fork (.alt 13 .done .stop)) .stop)) .stop)) .stop)) .stop))) (.alt 12 (.fork (.alt 2 (.fork (.alt 6 (.fork (.alt 10 (.fork (.alt 11 (.fork (.alt 13 .done .stop)) .stop)) .stop)) .stop)) .stop)) .stop))) (.alt 12 (.fork (.alt 2 (.fork (.alt 6 (.fork (.alt 7 (.fork (.alt 10 (.fork (.alt 11 (.fork (.alt 13 .done .stop)) .stop)) .stop)) .stop)) (.alt 7 (.fork (.alt 6 (.fork (.alt 10 (.fork (.alt 11 (.fork (.alt 13 .done .stop)) .stop)) .stop)) .stop)) .stop))) (.alt 7 (.fork (.alt 2 (.fork (.alt 6 (.fork (.alt 10 (.fork (.alt 11 (.fork (.alt 13 .done .stop)) .stop)) .stop)) .stop)) .stop)) .stop))) .stop)))) (.alt 7 (.fork (.alt 2 (.fork (.alt 3 (.fork (.alt 6 (.fork (.alt 10 (.fork (.alt 11 (.fork (.alt 12 (.fork (.alt 13 .done .stop)) .stop)) (.alt 12 (.fork (.alt 11 (.fork (.alt 13 .done .stop)) .stop)) .stop))) (.alt 12 (.fork (.alt 10 (.fork (.alt 11 (.fork (.alt 13 .done .stop)) .stop)) .stop)) .stop))) (.alt 12 (.fork (.alt 6 (.fork (.alt 10 (.fork (.alt 11 (.fork (.alt 13 .done .stop)) .stop)) .stop)) .stop)) .stop))) (.alt 12 (.fork (.alt 3 (.fork (.alt 6 (.fork (.alt 10 (.fork (.alt 11 (.fork (.alt 13 .done .stop)) .stop)) .stop)) .stop)) .stop)) .stop))) (.alt 3 (.fork (.alt 2 (.fork (.alt 6 (.fork (.alt 10 (.fork (.alt 11 (.fork (.alt 12 (.fork (.alt 13 .done .stop)) .stop)) (.alt 12 (.fork (.alt 11 (.fork (.alt 13 .done .stop)) .stop)) .stop))) (.alt 12 (.fork (.alt 10 (.fork (.alt 11 (.fork (.alt 13 .done .stop)) .stop)) .stop)) .stop))) (.alt 12 (.fork (.alt 6 (.fork (.alt 10 (.fork (.alt 11 (.fork (.alt 13 .done .stop)) .stop)) .stop)) .stop)) .stop))) (.alt 12 (.fork (.alt 2 (.fork (.alt 6 (.fork (.alt 10 (.fork (.alt 11 (.fork (.alt 13 .done .stop)) .stop)) .stop)) .stop)) .stop)) .stop))) (.alt 12 (.fork (.alt 2 (.fork (.alt 3 (.fork (.alt 6 (.fork (.alt 10 (.fork (.alt 11 (.fork (.alt 13 .done .stop)) .stop)) .stop)) .stop)) .stop)) (.alt 3 (.fork (.alt 2 (.fork (.alt 6 (.fork (.alt 10 (.fork (.alt 11 (.fork (.alt 13 .done .stop)) .stop)) .stop)) .stop)) .stop)) .stop))) .stop)))) (.alt 12 (.fork (.alt 2 (.fork (.alt 3 (.fork (.alt 6 (.fork (.alt 7 (.fork (.alt 10 (.fork (.alt 11 (.fork (.alt 13 .done .stop)) .stop)) .stop)) .stop)) (.alt 7 (.fork (.alt 6 (.fork (.alt 10 (.fork (.alt 11 (.fork (.alt 13 .done .stop)) .stop)) .stop)) .stop)) .stop))) (.alt 7 (.fork (.alt 3 (.fork (.alt 6 (.fork (.alt 10 (.fork (.alt 11 (.fork (.alt 13 .done .stop)) .stop)) .stop)) .stop)) .stop)) .stop))) (.alt 3 (.fork (.alt 2 (.fork (.alt 6 (.fork (.alt 7 (.fork (.alt 10 (.fork (.alt 11 (.fork (.alt 13 .done .stop)) .stop)) .stop)) .stop)) (.alt 7 (.fork (.alt 6 (.fork (.alt 10 (.fork (.alt 11 (.fork (.alt 13 .done .stop)) .stop)) .stop)) .stop)) .stop))) (.alt 7 (.fork (.alt 2 (.fork (.alt 6 (.fork (.alt 10 (.fork (.alt 11 (.fork (.alt 13 .done .stop)) .stop)) .stop)) .stop)) .stop)) .stop))) (.alt 7 (.fork (.alt 2 (.fork (.alt 3 (.fork (.alt 6 (.fork (.alt 10 (.fork (.alt 11 (.fork (.alt 13 .done .stop)) .stop)) .stop)) .stop)) .stop)) (.alt 3 (.fork (.alt 2 (.fork (.alt 6 (.fork (.alt 10 (.fork (.alt 11 (.fork (.alt 13 .done .stop)) .stop)) .stop)) .stop)) .stop)) .stop))) .stop)))) .stop))))))))))) [1, 2] [] [3] [.set 3 (.one (.ptr ⟨3, [], 0⟩))] [(3, ⟨true, [.own (.sl 1 (h.Memory.map dIntS)), .own (.sl 9 ([])), .own (.sl 4 (h.Buffer.map dEntry)), .own (.sl 4 (h.IoBuffer.map dEntry))]⟩)] ?_
  refine ⟨?_, ?_⟩
  · repeat' first | exact True.intro | refine And.intro ?_ ?_ | (intro _ _) | refine callL (impl_copyMem_f _).k ?_ | refine appPq ?_ | refine appP ?_ | exact rfl | (refine eqS ?_; simp [*]; done)
  refine len ?_
  refine loopA [2, 3, 19, 20] [] [3] (fun (i : Nat) => [.set 21 (I i)]) (fun (i : Nat) => [(3, ⟨true, [.own (.sl 1 (h.Memory.map dIntS)), .own (.sl 9 ((h.Mons.take i).map dMon)), .own (.sl 4 (h.Buffer.map dEntry)), .own (.sl 4 (h.IoBuffer.map dEntry))]⟩)]) (fun (i : Nat) => i ≤ h.Mons.length) (fun (i : Nat) => h.Mons.length - i) (0) (Nat.zero_le _) ?_
  refine ⟨hda, fun i hyp N1 hN1 => ?_⟩
  have hyp : i ≤ h.Mons.length := hyp
  refine cnd (fun hb => ?_) (fun hb => ?_)
  · first | refine ixm (by assumption) ?_ | refine bnd ?_ | refine bndi ?_ | refine ixkq (fun y23 hy23 qy23 ly23 => ?_) | refine ixiq (fun y23 hy23 qy23 ly23 => ?_)
    first | refine ixs ?_ | refine ixo (by assumption) ?_ | refine ixoq (fun z1 hz1 qz1 lz1 => ?_) | skip
    refine regU [5, 7] [(0, 0), (1, 0), (2, 0), (3, 1), (4, 1), (5, 1), (6, 0), (7, 1)] ?_
    refine callG (impl_copyMon_f _).k ?_
    first | refine appOq ?_ | refine appO ?_
    refine rng ?_
    refine hN1 _ _ _ ?_
    refine nxa (i + 1) (by omega)
  · refine hN1 _ _ _ ?_
    exact (by rw [List.take_of_length_le (by omega)]; rfl)
end Go.Proofs.YteelmdpahpggkaaGreat.T


namespace Go.Proofs.YteelmdpahpggkaaGreat.T
open Go
set_option linter.unusedVariables false
set_option linter.unusedSimpArgs false
set_option maxRecDepth 100000
set_option maxHeartbeats 8000000

instance wlMon (xs : List VMon) : WL (xs.map dMon) := ⟨fun d hd => by obtain ⟨x, _, rfl⟩ := List.mem_map.1 hd; exact inferInstanceAs (WR (dMon x))⟩
end Go.Proofs.YteelmdpahpggkaaGreat.T


namespace Go.Proofs.YteelmdpahpggkaaGreat
open Go.Shelf
set_option maxRecDepth 100000

end Go.Proofs.YteelmdpahpggkaaGreat


namespace Go.Proofs.YteelmdpahpggkaaGreat.T
open Go
set_option linter.unusedVariables false
set_option linter.unusedSimpArgs false
set_option maxRecDepth 100000
set_option maxHeartbeats 8000000

theorem FunAt.still {P : Program} {f : FuncId} {vs : List Value} {t : TS} {x : Value} {w : World} (hp : freeS t = some x) (h : Calls P f vs.toArray w fun e w' => e = .returned x ∧ w' = w) : FunAt P f (vs.map V) (RP t) w := by
  intro g args k hg hsz hargs
  have ha : args = vs.toArray := by
    apply Array.ext
    · simpa using hsz
    · intro i h1 h2
      have h3 : i < vs.length := by simpa using h2
      have := V_inv (hargs i (V vs[i]) args[i] (by simp [h3]) (Array.getElem?_eq_getElem h1))
      simpa using this
  subst ha
  refine h.mono fun e w' ⟨he, hw⟩ => ?_
  subst he
  subst hw
  refine ⟨x, ⟨[], fun _ => t⟩, g, rfl, rfl, ⟨rfl, rfl, rfl, Nat.le_refl _, fun b hb => rfl, fun b h1 h2 => by omega, fun b hb => ?_, fun q d hq => ?_, (freeS_inv hp).2 rfl⟩⟩
  · rw [hg] at hb
    simp only [allRo] at hb
    split at hb <;> cases hb
  · simp at hq
end Go.Proofs.YteelmdpahpggkaaGreat.T


namespace Go.Proofs.YteelmdpahpggkaaGreat.T
open Go
set_option linter.unusedVariables false
set_option linter.unusedSimpArgs false
set_option maxRecDepth 100000
set_option maxHeartbeats 8000000

end Go.Proofs.YteelmdpahpggkaaGreat.T


namespace Go.Proofs.YteelmdpahpggkaaGreat.T
open Go
set_option linter.unusedVariables false
set_option linter.unusedSimpArgs false
set_option maxRecDepth 100000
set_option maxHeartbeats 8000000

end Go.Proofs.YteelmdpahpggkaaGreat.T


namespace Go.Proofs.YteelmdpahpggkaaGreat.T
open Go
set_option linter.unusedVariables false
set_option linter.unusedSimpArgs false
set_option maxRecDepth 100000
set_option maxHeartbeats 8000000

theorem monAt_out {h : VHost} {m : Int} (hm : ¬ (0 ≤ m ∧ m < h.Mons.length)) : monAt h m = none := at_out hm
theorem monAt_in {h : VHost} {m : Int} {x : VMon} (h0 : 0 ≤ m) (hx : h.Mons[m.toNat]? = some x) : monAt h m = some x := at_in h0 hx
theorem pageOf_off {h : VHost} {m n : Int} (hm : ¬ (0 ≤ m ∧ m < h.Mons.length) ∨ ¬ (0 ≤ n ∧ n ≤ 7)) : pageOf h m n = [0, 0, 0, 0] := by
  unfold pageOf
  by_cases h1 : 0 ≤ m ∧ m < h.Mons.length
  · have h2 : ¬ (0 ≤ n ∧ n ≤ 7) := hm.resolve_left (fun h => h h1)
    cases monAt h m with
    | none => rfl
    | some x => simp only [if_neg h2]
  · rw [monAt_out h1]
theorem pageOf_at {h : VHost} {m n : Int} {x : VMon} (h0 : 0 ≤ m) (hx : h.Mons[m.toNat]? = some x) (hn : 0 ≤ n ∧ n ≤ 7) : pageOf h m n = if (slotAt x.Outer n).Page ≠ -1 then pageAt h.Memory (slotAt x.Outer n).Page else pageAt x.Out n := by
  unfold pageOf
  rw [monAt_in h0 hx]
  simp only [if_pos hn]
theorem pageOf_in {h : VHost} {m n : Int} {x : VMon} (h0 : 0 ≤ m) (hx : h.Mons[m.toNat]? = some x) (hn : 0 ≤ n ∧ n ≤ 7) (hp : ¬ (slotAt x.Outer n).Page = -1) : pageOf h m n = pageAt h.Memory (slotAt x.Outer n).Page := by rw [pageOf_at h0 hx hn, if_pos hp]
theorem pageOf_out {h : VHost} {m n : Int} {x : VMon} (h0 : 0 ≤ m) (hx : h.Mons[m.toNat]? = some x) (hn : 0 ≤ n ∧ n ≤ 7) (hp : (slotAt x.Outer n).Page = -1) : pageOf h m n = pageAt x.Out n := by rw [pageOf_at h0 hx hn, if_neg (by simpa using hp)]
abbrev monOr (h : VHost) (m : Int) : VMon := (monAt h m).getD noMon
theorem spec_PageOf_f (h : VHost) (m : Int) (n : Int) [Q (SmHost h)] : Fun Tryz.prog 129 [A (rHost h), I m, I n] (RL 1 ((pageOf h m n).map dInt)) := by
  refine Fun.w 43 Tryz.func129 fun w g0 hM => ?_
  have hl0 := hM.1.2.1.map
  refine len ?_
  refine rng ?_
  refine callP (spec_l01In_f _ _ _).k ?_
  refine cnd (fun hg7 => ?_) (fun hg7 => ?_)
  · refine mkw 4 ?_
    exact (by first | (rw [pageOf_off (by first | (left; omega) | (right; omega))]; rfl) | (rw [pageOf_in (by omega) (by assumption) (by omega) (by assumption)]; rfl) | (rw [pageOf_out (by omega) (by assumption) (by omega) (by omega)]; rfl))
  · refine callP (spec_l01In_f _ _ _).k ?_
    refine cnd (fun hb => ?_) (fun hb => ?_)
    · refine mkw 4 ?_
      exact (by first | (rw [pageOf_off (by first | (left; omega) | (right; omega))]; rfl) | (rw [pageOf_in (by omega) (by assumption) (by omega) (by assumption)]; rfl) | (rw [pageOf_out (by omega) (by assumption) (by omega) (by omega)]; rfl))
    · first | refine ixm (by assumption) ?_ | refine bnd ?_ | refine bndi ?_ | refine ixkq (fun y25 hy25 qy25 ly25 => ?_) | refine ixiq (fun y25 hy25 qy25 ly25 => ?_)
      first | refine ixs ?_ | refine ixo (by assumption) ?_ | refine ixoq (fun z1 hz1 qz1 lz1 => ?_) | skip
      refine callP (spec_SlotAt_f _ _).k ?_
      refine cnd (fun hb2 => ?_) (fun hb2 => ?_)
      · refine callL (spec_PageAt_f _ _).k ?_
        exact (by first | (rw [pageOf_off (by first | (left; omega) | (right; omega))]; rfl) | (rw [pageOf_in (by omega) (by assumption) (by omega) (by assumption)]; rfl) | (rw [pageOf_out (by omega) (by assumption) (by omega) (by omega)]; rfl))
      · refine callL (spec_PageAt_f _ _).k ?_
        exact (by first | (rw [pageOf_off (by first | (left; omega) | (right; omega))]; rfl) | (rw [pageOf_in (by omega) (by assumption) (by omega) (by assumption)]; rfl) | (rw [pageOf_out (by omega) (by assumption) (by omega) (by omega)]; rfl))

theorem impl_PageOf_f (h : VHost) (m : Int) (n : Int) [Q (SmHost h)] : Fun Tryz.prog 134 [A (rHost h), I m, I n] (RL 1 ((pageOf h m n).map dInt)) := by
  refine Fun.w 42 Tryz.func134 fun w g0 hM => ?_
  have hl0 := hM.1.2.1.map
  refine len ?_
  refine callP (impl_has_f _ _).k ?_
  refine cnd (fun hg6 => ?_) (fun hg6 => ?_)
  · refine mkw 4 ?_
    exact (by first | (rw [pageOf_off (by first | (left; omega) | (right; omega))]; rfl) | (rw [pageOf_in (by omega) (by assumption) (by omega) (by assumption)]; rfl) | (rw [pageOf_out (by omega) (by assumption) (by omega) (by omega)]; rfl))
  · refine callP (impl_has_f _ _).k ?_
    refine cnd (fun hb => ?_) (fun hb => ?_)
    · refine mkw 4 ?_
      exact (by first | (rw [pageOf_off (by first | (left; omega) | (right; omega))]; rfl) | (rw [pageOf_in (by omega) (by assumption) (by omega) (by assumption)]; rfl) | (rw [pageOf_out (by omega) (by assumption) (by omega) (by omega)]; rfl))
    · first | refine ixm (by assumption) ?_ | refine bnd ?_ | refine bndi ?_ | refine ixkq (fun y24 hy24 qy24 ly24 => ?_) | refine ixiq (fun y24 hy24 qy24 ly24 => ?_)
      first | refine ixs ?_ | refine ixo (by assumption) ?_ | refine ixoq (fun z1 hz1 qz1 lz1 => ?_) | skip
      refine callP (impl_SlotAt_f _ _).k ?_
      refine cnd (fun hb2 => ?_) (fun hb2 => ?_)
      · refine callL (impl_PageAt_f _ _).k ?_
        exact (by first | (rw [pageOf_off (by first | (left; omega) | (right; omega))]; rfl) | (rw [pageOf_in (by omega) (by assumption) (by omega) (by assumption)]; rfl) | (rw [pageOf_out (by omega) (by assumption) (by omega) (by omega)]; rfl))
      · refine callL (impl_PageAt_f _ _).k ?_
        exact (by first | (rw [pageOf_off (by first | (left; omega) | (right; omega))]; rfl) | (rw [pageOf_in (by omega) (by assumption) (by omega) (by assumption)]; rfl) | (rw [pageOf_out (by omega) (by assumption) (by omega) (by omega)]; rfl))

theorem impl_moves_f (h : VHost) (v : VMove) : Fun Tryz.prog 130 [A (rHost h), A (rMove v)] (RV (.bool (moves h v))) := by
  refine Fun.w 21 Tryz.func130 fun w g0 hM => ?_
  have hl0 := hM.1.2.1.map
  have hl1 := hM.2.1.2.1.map
  refine callP (impl_HostOk_f _).k ?_
  refine cnd (fun hg2 => ?_) (fun hg2 => ?_)
  · refine len ?_
    refine callP (impl_has_f _ _).k ?_
    refine cnd (fun hg10 => ?_) (fun hg10 => ?_)
    · refine len ?_
      exact resV (by first | (simp [moves, hasMon, *]; done) | (refine congrArg Value.bool ?_; rw [Bool.eq_iff_iff]; simp [moves, hasMon, *]; omega) | (refine congrArg Value.bool ?_; symm; rw [Bool.eq_false_iff]; intro e; simp only [moves, hasMon, Bool.and_eq_true, decide_eq_true_eq] at e; omega))
    · exact resV (by first | (simp [moves, hasMon, *]; done) | (refine congrArg Value.bool ?_; rw [Bool.eq_iff_iff]; simp [moves, hasMon, *]; omega) | (refine congrArg Value.bool ?_; symm; rw [Bool.eq_false_iff]; intro e; simp only [moves, hasMon, Bool.and_eq_true, decide_eq_true_eq] at e; omega))
  · exact resV (by first | (simp [moves, hasMon, *]; done) | (refine congrArg Value.bool ?_; rw [Bool.eq_iff_iff]; simp [moves, hasMon, *]; omega) | (refine congrArg Value.bool ?_; symm; rw [Bool.eq_false_iff]; intro e; simp only [moves, hasMon, Bool.and_eq_true, decide_eq_true_eq] at e; omega))

end Go.Proofs.YteelmdpahpggkaaGreat.T


