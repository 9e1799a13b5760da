
import Derived.Test.YteelmdpahpggkaaGreatNjp
import Derived.Test.YteelmdpahpggkaaGreatRows
import Derived.Shelf.Lays
namespace Go.Proofs.YteelmdpahpggkaaGreat.T
open Go
set_option linter.unusedVariables false
set_option linter.unusedSimpArgs false
set_option maxRecDepth 100000
set_option maxHeartbeats 8000000
theorem land_yes {h : VHost} {x : VMon} (h1 : hostOk h = true) (h2 : h.Mons.length < 3) (h3 : monOk x = true) (h4 : mapped x.Outer ≤ 0) : land h x = some { h with Mons := h.Mons ++ [x] } := by
 unfold land
 rw [h1, h3, decide_eq_true h2, decide_eq_true h4]
 rfl
theorem land_no {h : VHost} {x : VMon} (h1 : hostOk h = false ∨ ¬ h.Mons.length < 3 ∨ monOk x = false ∨ ¬ mapped x.Outer ≤ 0) : land h x = none := by
 unfold land
 rw [if_neg]
 simp only [Bool.and_eq_true, decide_eq_true_eq]
 rintro ⟨⟨⟨e1, e2⟩, e3⟩, e4⟩
 rcases h1 with h1 | h1 | h1 | h1
 ·rw [e1] at h1; cases h1
 ·exact h1 e2
 ·rw [e3] at h1; cases h1
 ·exact h1 e4
theorem land_row {h : VHost} {x : VMon} : rHost { h with Mons := h.Mons ++ [x] } = (rHost h).set 1 (.sl 9 (h.Mons.map dMon ++ [dMon x])) := by simp [rHost]
theorem spec_l21Mon_f (x : VMon) [Q (SmMon x)] : Fun Tryz.prog 105 [A (rMon x)] (RG [.a (rMon x)]) := by
 refine Fun.w 48 Tryz.func105 fun w g0 hM => ?_
 have hl0 := hM.1.2.2.2.2.2.2.2.1.map
 first | refine appPq ?_ | refine appP ?_
 refine callL (spec_l04Copy_f _).k ?_
 first | refine appPq ?_ | refine appP ?_
 refine callL (spec_l17Guests_f _).k ?_
 first | refine appPq ?_ | refine appP ?_
 refine loopA [1, 2, 3] [3] [3] (fun (i : Nat) => [.set 4 (I i)]) (fun (i : Nat) => [(3, ⟨false, [.own (.sl 2 ((x.Tables.take i).map dKept))]⟩)]) (fun (i : Nat) => i ≤ x.Tables.length) (fun (i : Nat) => x.Tables.length - i) (0) (Nat.zero_le _) ?_
 refine ⟨hda, fun i hyp N1 hN1 => ?_⟩
 have hyp : i ≤ x.Tables.length := hyp
 refine len ?_
 refine cnd (fun hb => ?_) (fun hb => ?_)
 ·first | refine ixm (by assumption) ?_ | refine bnd ?_ | refine bndi ?_ | refine ixkq (fun y40 hy40 qy40 ly40 => ?_) | refine ixiq (fun y40 hy40 qy40 ly40 => ?_)
  first | refine ixs ?_ | refine ixo (by assumption) ?_ | refine ixoq (fun z1 hz1 qz1 lz1 => ?_) | skip
  refine callG (spec_l07Copy_f _).k ?_
  first | refine appOq ?_ | refine appO ?_
  refine rng ?_
  refine hN1 _ _ _ ?_
  refine nxa (i + 1) (by omega)
 ·refine hN1 _ _ _ ?_
  exact (by rw [List.take_of_length_le (by omega)]; rfl)
theorem impl_copyMon_f (x : VMon) [Q (SmMon x)] : Fun Tryz.prog 117 [A (rMon x)] (RG [.a (rMon x)]) := by
 refine Fun.w 44 Tryz.func117 fun w g0 hM => ?_
 have hl0 := hM.1.2.2.2.2.2.2.2.1.map
 refine callL (impl_copyTable_f _).k ?_
 refine callL (impl_copyMem_f _).k ?_
 first | refine appPq ?_ | refine appP ?_
 refine callL (impl_copyGuests_f _).k ?_
 refine callL (impl_copyInts_f _).k ?_
 refine len ?_
 refine loopA [1, 2, 3, 29, 30] [3] [3] (fun (i : Nat) => [.set 31 (I i)]) (fun (i : Nat) => [(3, ⟨false, [.own (.sl 2 ((x.Tables.take i).map dKept))]⟩)]) (fun (i : Nat) => i ≤ x.Tables.length) (fun (i : Nat) => x.Tables.length - i) (0) (Nat.zero_le _) ?_
 refine ⟨hda, fun i hyp N1 hN1 => ?_⟩
 have hyp : i ≤ x.Tables.length := hyp
 refine cnd (fun hb => ?_) (fun hb => ?_)
 ·first | refine ixm (by assumption) ?_ | refine bnd ?_ | refine bndi ?_ | refine ixkq (fun y33 hy33 qy33 ly33 => ?_) | refine ixiq (fun y33 hy33 qy33 ly33 => ?_)
  first | refine ixs ?_ | refine ixo (by assumption) ?_ | refine ixoq (fun z1 hz1 qz1 lz1 => ?_) | skip
  refine callG (impl_copyKept_f _).k ?_
  first | refine appOq ?_ | refine appO ?_
  refine rng ?_
  refine hN1 _ _ _ ?_
  refine nxa (i + 1) (by omega)
 ·refine hN1 _ _ _ ?_
  exact (by rw [List.take_of_length_le (by omega)]; rfl)
theorem spec_l21Copy_f (h : VHost) [Q (SmHost h)] : Fun Tryz.prog 101 [A (rHost h)] (RG [.a (rHost h)]) := by
 refine Fun.w 36 Tryz.func101 fun w g0 hM => ?_
 have hl0 := hM.1.2.1.map
 refine regTJ [6, 10, 13] [6, 10] [1] (.quiet 0 0 (.quiet 1 0 (.quiet 4 0 (.quiet 5 0 (.quiet 8 1 (.quiet 9 1 (.fork (.alt 2 (.fork (.alt 3 (.fork (.alt 6 (.fork (.alt 7 (.fork (.alt 10 (.fork (.alt 11 (.fork (.alt 12 (.fork (.alt 13 .done .stop)) .stop)) (.alt 12 (.fork (.alt 11 (.fork (.alt 13 .done .stop)) .stop)) .stop))) (.alt 12 (.fork (.alt 10 (.fork (.alt 11 (.fork (.alt 13 .done .stop)) .stop)) .stop)) .stop))) (.alt 12 (.fork (.alt 7 (.fork (.alt 10 (.fork (.alt 11 (.fork (.alt 13 .done .stop)) .stop)) .stop)) .stop)) .stop))) (.alt 7 (.fork (.alt 6 (.fork (.alt 10 (.fork (.alt 11 (.fork (.alt 12 (.fork (.alt 13 .done .stop)) .stop)) (.alt 12 (.fork (.alt 11 (.fork (.alt 13 .done .stop)) .stop)) .stop))) (.alt 12 (.fork (.alt 10 (.fork (.alt 11 (.fork (.alt 13 .done .stop)) .stop)) .stop)) .stop))) (.alt 12 (.fork (.alt 6 (.fork (.alt 10 (.fork (.alt 11 (.fork (.alt 13 .done .stop)) .stop)) .stop)) .stop)) .stop))) (.alt 12 (.fork (.alt 6 (.fork (.alt 7 (.fork (.alt 10 (.fork (.alt 11 (.fork (.alt 13 .done .stop)) .stop)) .stop)) .stop)) (.alt 7 (.fork (.alt 6 (.fork (.alt 10 (.fork (.alt 11 (.fork (.alt 13 .done .stop)) .stop)) .stop)) .stop)) .stop))) .stop)))) (.alt 7 (.fork (.alt 3 (.fork (.alt 6 (.fork (.alt 10 (.fork (.alt 11 (.fork (.alt 12 (.fork (.alt 13 .done .stop)) .stop)) (.alt 12 (.fork (.alt 11 (.fork (.alt 13 .done .stop)) .stop)) .stop))) (.alt 12 (.fork (.alt 10 (.fork (.alt 11 (.fork (.alt 13 .done .stop)) .stop)) .stop)) .stop))) (.alt 12 (.fork (.alt 6 (.fork (.alt 10 (.fork (.alt 11 (.fork (.alt 13 .done .stop)) .stop)) .stop)) .stop)) .stop))) (.alt 12 (.fork (.alt 3 (.fork (.alt 6 (.fork (.alt 10 (.fork (.alt 11 (.fork (.alt 13 .done .stop)) .stop)) .stop)) .stop)) .stop)) .stop))) (.alt 12 (.fork (.alt 3 (.fork (.alt 6 (.fork (.alt 7 (.fork (.alt 10 (.fork (.alt 11 (.fork (.alt 13 .done .stop)) .stop)) .stop)) .stop)) (.alt 7 (.fork (.alt 6 (.fork (.alt 10 (.fork (.alt 11 (.fork (.alt 13 .done .stop)) .stop)) .stop)) .stop)) .stop))) (.alt 7 (.fork (.alt 3 (.fork (.alt 6 (.fork (.alt 10 (.fork (.alt 11 (.fork (.alt 13 .done .stop)) .stop)) .stop)) .stop)) .stop)) .stop))) .stop)))) (.alt 3 (.fork (.alt 2 (.fork (.alt 6 (.fork (.alt 7 (.fork (.alt 10 (.fork (.alt 11 (.fork (.alt 12 (.fork (.alt 13 .done .stop)) .stop)) (.alt 12 (.fork (.alt 11 (.fork (.alt 13 .done .stop)) .stop)) .stop))) (.alt 12 (.fork (.alt 10 (.fork (.alt 11 (.fork (.alt 13 .done .stop)) .stop)) .stop)) .stop))) (.alt 12 (.fork (.alt 7 (.fork (.alt 10 (.fork (.alt 11 (.fork (.alt 13 .done .stop)) .stop)) .stop)) .stop)) .stop))) (.alt 7 (.fork (.alt 6 (.fork (.alt 10 (.fork (.alt 11 (.fork (.alt 12 (.fork (.alt 13 .done .stop)) .stop)) (.alt 12 (.fork (.alt 11 (.fork (.alt 13 .done .stop)) .stop)) .stop))) (.alt 12 (.fork (.alt 10 (.fork (.alt 11 (.fork (.alt 13 .done .stop)) .stop)) .stop)) .stop))) (.alt 12 (.fork (.alt 6 (.fork (.alt 10 (.fork (.alt 11 (.fork (.alt 13 .done .stop)) .stop)) .stop)) .stop)) .stop))) (.alt 12 (.fork (.alt 6 (.fork (.alt 7 (.fork (.alt 10 (.fork (.alt 11 (.fork (.alt 13 .done .stop)) .stop)) .stop)) .stop)) (.alt 7 (.fork (.alt 6 (.fork (.alt 10 (.fork (.alt 11 (.fork (.alt 13 .done .stop)) .stop)) .stop)) .stop)) .stop))) .stop)))) (.alt 7 (.fork (.alt 2 (.fork (.alt 6 (.fork (.alt 10 (.fork (.alt 11 (.fork (.alt 12 (.fork (.alt 13 .done .stop)) .stop)) (.alt 12 (.fork (.alt 11 (.fork (.alt 13 .done .stop)) .stop)) .stop))) (.alt 12 (.fork (.alt 10 (.fork (.alt 11 (.fork (.alt 13 .done .stop)) .stop)) .stop)) .stop))) (.alt 12 (.fork (.alt 6 (.fork (.alt 10 (.fork (.alt 11 (.fork (.alt 13 .done .stop)) .stop)) .stop)) .stop)) .stop))) (.alt 12 (.fork (.alt 2 (.fork (.alt 6 (.fork (.alt 10 (.fork (.alt 11 (.fork (.alt 13 .done .stop)) .stop)) .stop)) .stop)) .stop)) .stop))) (.alt 12 (.fork (.alt 2 (.fork (.alt 6 (.fork (.alt 7 (.fork (.alt 10 (.fork (.alt 11 (.fork (.alt 13 .done .stop)) .stop)) .stop)) .stop)) (.alt 7 (.fork (.alt 6 (.fork (.alt 10 (.fork (.alt 11 (.fork (.alt 13 .done .stop)) .stop)) .stop)) .stop)) .stop))) (.alt 7 (.fork (.alt 2 (.fork (.alt 6 (.fork (.alt 10 (.fork (.alt 11 (.fork (.alt 13 .done .stop)) .stop)) .stop)) .stop)) .stop)) .stop))) .stop)))) (.alt 7 (.fork (.alt 2 (.fork (.alt 3 (.fork (.alt 6 (.fork (.alt 10 (.fork (.alt 11 (.fork (.alt 12 (.fork (.alt 13 .done .stop)) .stop)) (.alt 12 (.fork (.alt 11 (.fork (.alt 13 .done .stop)) .stop)) .stop))) (.alt 12 (.fork (.alt 10 (.fork (.alt 11 (.fork (.alt 13 .done .stop)) .stop)) .stop)) .stop))) (.alt 12 (.fork (.alt 6 (.fork (.alt 10 (.fork (.alt 11 (.fork (.alt 13 .done .stop)) .stop)) .stop)) .stop)) .stop))) (.alt 12 (.fork (.alt 3 (.fork (.alt 6 (.fork (.alt 10 (.fork (.alt 11 (.fork (.alt 13 .done .stop)) .stop)) .stop)) .stop)) .stop)) .stop))) (.alt 3 (.fork (.alt 2 (.fork (.alt 6 (.fork (.alt 10 (.fork (.alt 11 (.fork (.alt 12 (.fork (.alt 13 .done .stop)) .stop)) (.alt 12 (.fork (.alt 11 (.fork (.alt 13 .done .stop)) .stop)) .stop))) (.alt 12 (.fork (.alt 10 (.fork (.alt 11 (.fork (.alt 13 .done .stop)) .stop)) .stop)) .stop))) (.alt 12 (.fork (.alt 6 (.fork (.alt 10 (.fork (.alt 11 (.fork (.alt 13 .done .stop)) .stop)) .stop)) .stop)) .stop))) (.alt 12 (.fork (.alt 2 (.fork (.alt 6 (.fork (.alt 10 (.fork (.alt 11 (.fork (.alt 13 .done .stop)) .stop)) .stop)) .stop)) .stop)) .stop))) (.alt 12 (.fork (.alt 2 (.fork (.alt 3 (.fork (.alt 6 (.fork (.alt 10 (.fork (.alt 11 (.fork (.alt 13 .done .stop)) .stop)) .stop)) .stop)) .stop)) (.alt 3 (.fork (.alt 2 (.fork (.alt 6 (.fork (.alt 10 (.fork (.alt 11 (.fork (.alt 13 .done .stop)) .stop)) .stop)) .stop)) .stop)) .stop))) .stop)))) (.alt 12 (.fork (.alt 2 (.fork (.alt 3 (.fork (.alt 6 (.fork (.alt 7 (.fork (.alt 10 (.fork (.alt 11 (.fork (.alt 13 .done .stop)) .stop)) .stop)) .stop)) (.alt 7 (.fork (.alt 6 (.fork (.alt 10 (.fork (.alt 11 (.fork (.alt 13 .done .stop)) .stop)) .stop)) .stop)) .stop))) (.alt 7 (.fork (.alt 3 (.fork (.alt 6 (.fork (.alt 10 (.fork (.alt 11 (.fork (.alt 13 .done .stop)) .stop)) .stop)) .stop)) .stop)) .stop))) (.alt 3 (.fork (.alt 2 (.fork (.alt 6 (.fork (.alt 7 (.fork (.alt 10 (.fork (.alt 11 (.fork (.alt 13 .done .stop)) .stop)) .stop)) .stop)) (.alt 7 (.fork (.alt 6 (.fork (.alt 10 (.fork (.alt 11 (.fork (.alt 13 .done .stop)) .stop)) .stop)) .stop)) .stop))) (.alt 7 (.fork (.alt 2 (.fork (.alt 6 (.fork (.alt 10 (.fork (.alt 11 (.fork (.alt 13 .done .stop)) .stop)) .stop)) .stop)) .stop)) .stop))) (.alt 7 (.fork (.alt 2 (.fork (.alt 3 (.fork (.alt 6 (.fork (.alt 10 (.fork (.alt 11 (.fork (.alt 13 .done .stop)) .stop)) .stop)) .stop)) .stop)) (.alt 3 (.fork (.alt 2 (.fork (.alt 6 (.fork (.alt 10 (.fork (.alt 11 (.fork (.alt 13 .done .stop)) .stop)) .stop)) .stop)) .stop)) .stop))) .stop)))) .stop))))))))))) [1, 2] [] [3] [.set 3 (.one (.ptr ⟨3, [], 0⟩))] [(3, ⟨true, [.own (.sl 1 (h.Memory.map dIntS)), .own (.sl 9 ([])), .own (.sl 4 (h.Buffer.map dEntry)), .own (.sl 4 (h.IoBuffer.map dEntry))]⟩)] ?_
 refine ⟨?_, ?_⟩
 ·repeat' first | exact True.intro | refine And.intro ?_ ?_ | (intro _ _) | refine callL (spec_l04Copy_f _).k ?_ | refine appPq ?_ | refine appP ?_ | exact rfl | (refine eqS ?_; simp [*]; done)
 refine loopA [1, 2, 3] [] [3] (fun (i : Nat) => [.set 4 (I i)]) (fun (i : Nat) => [(3, ⟨true, [.own (.sl 1 (h.Memory.map dIntS)), .own (.sl 9 ((h.Mons.take i).map dMon)), .own (.sl 4 (h.Buffer.map dEntry)), .own (.sl 4 (h.IoBuffer.map dEntry))]⟩)]) (fun (i : Nat) => i ≤ h.Mons.length) (fun (i : Nat) => h.Mons.length - i) (0) (Nat.zero_le _) ?_
 refine ⟨hda, fun i hyp N1 hN1 => ?_⟩
 have hyp : i ≤ h.Mons.length := hyp
 refine len ?_
 refine cnd (fun hb => ?_) (fun hb => ?_)
 ·refine regU [9, 11] [(0, 0), (1, 0), (2, 0), (3, 0), (4, 0), (5, 0), (6, 0), (7, 1), (8, 1), (9, 1), (10, 0), (11, 1)] ?_
  first | refine ixm (by assumption) ?_ | refine bnd ?_ | refine bndi ?_ | refine ixkq (fun y29 hy29 qy29 ly29 => ?_) | refine ixiq (fun y29 hy29 qy29 ly29 => ?_)
  first | refine ixs ?_ | refine ixo (by assumption) ?_ | refine ixoq (fun z1 hz1 qz1 lz1 => ?_) | skip
  refine callG (spec_l21Mon_f _).k ?_
  first | refine appOq ?_ | refine appO ?_
  refine rng ?_
  refine hN1 _ _ _ ?_
  refine nxa (i + 1) (by omega)
 ·refine hN1 _ _ _ ?_
  exact (by rw [List.take_of_length_le (by omega)]; rfl)
theorem impl_copyHost_f (h : VHost) [Q (SmHost h)] : Fun Tryz.prog 113 [A (rHost h)] (RG [.a (rHost h)]) := by
 refine Fun.w 34 Tryz.func113 fun w g0 hM => ?_
 have hl0 := hM.1.2.1.map
 refine regTJ [6, 10, 13] [6, 10] [1] (.quiet 0 0 (.quiet 1 0 (.quiet 4 0 (.quiet 5 0 (.quiet 8 1 (.quiet 9 1 (.fork (.alt 2 (.fork (.alt 3 (.fork (.alt 6 (.fork (.alt 7 (.fork (.alt 10 (.fork (.alt 11 (.fork (.alt 12 (.fork (.alt 13 .done .stop)) .stop)) (.alt 12 (.fork (.alt 11 (.fork (.alt 13 .done .stop)) .stop)) .stop))) (.alt 12 (.fork (.alt 10 (.fork (.alt 11 (.fork (.alt 13 .done .stop)) .stop)) .stop)) .stop))) (.alt 12 (.fork (.alt 7 (.fork (.alt 10 (.fork (.alt 11 (.fork (.alt 13 .done .stop)) .stop)) .stop)) .stop)) .stop))) (.alt 7 (.fork (.alt 6 (.fork (.alt 10 (.fork (.alt 11 (.fork (.alt 12 (.fork (.alt 13 .done .stop)) .stop)) (.alt 12 (.fork (.alt 11 (.fork (.alt 13 .done .stop)) .stop)) .stop))) (.alt 12 (.fork (.alt 10 (.fork (.alt 11 (.fork (.alt 13 .done .stop)) .stop)) .stop)) .stop))) (.alt 12 (.fork (.alt 6 (.fork (.alt 10 (.fork (.alt 11 (.fork (.alt 13 .done .stop)) .stop)) .stop)) .stop)) .stop))) (.alt 12 (.fork (.alt 6 (.fork (.alt 7 (.fork (.alt 10 (.fork (.alt 11 (.fork (.alt 13 .done .stop)) .stop)) .stop)) .stop)) (.alt 7 (.fork (.alt 6 (.fork (.alt 10 (.fork (.alt 11 (.fork (.alt 13 .done .stop)) .stop)) .stop)) .stop)) .stop))) .stop)))) (.alt 7 (.fork (.alt 3 (.fork (.alt 6 (.fork (.alt 10 (.fork (.alt 11 (.fork (.alt 12 (.fork (.alt 13 .done .stop)) .stop)) (.alt 12 (.fork (.alt 11 (.fork (.alt 13 .done .stop)) .stop)) .stop))) (.alt 12 (.fork (.alt 10 (.fork (.alt 11 (.fork (.alt 13 .done .stop)) .stop)) .stop)) .stop))) (.alt 12 (.fork (.alt 6 (.fork (.alt 10 (.fork (.alt 11 (.fork (.alt 13 .done .stop)) .stop)) .stop)) .stop)) .stop))) (.alt 12 (.fork (.alt 3 (.fork (.alt 6 (.fork (.alt 10 (.fork (.alt 11 (.fork (.alt 13 .done .stop)) .stop)) .stop)) .stop)) .stop)) .stop))) (.alt 12 (.fork (.alt 3 (.fork (.alt 6 (.fork (.alt 7 (.fork (.alt 10 (.fork (.alt 11 (.fork (.alt 13 .done .stop)) .stop)) .stop)) .stop)) (.alt 7 (.fork (.alt 6 (.fork (.alt 10 (.fork (.alt 11 (.fork (.alt 13 .done .stop)) .stop)) .stop)) .stop)) .stop))) (.alt 7 (.fork (.alt 3 (.fork (.alt 6 (.fork (.alt 10 (.fork (.alt 11 (.fork (.alt 13 .done .stop)) .stop)) .stop)) .stop)) .stop)) .stop))) .stop)))) (.alt 3 (.fork (.alt 2 (.fork (.alt 6 (.fork (.alt 7 (.fork (.alt 10 (.fork (.alt 11 (.fork (.alt 12 (.fork (.alt 13 .done .stop)) .stop)) (.alt 12 (.fork (.alt 11 (.fork (.alt 13 .done .stop)) .stop)) .stop))) (.alt 12 (.fork (.alt 10 (.fork (.alt 11 (.fork (.alt 13 .done .stop)) .stop)) .stop)) .stop))) (.alt 12 (.fork (.alt 7 (.fork (.alt 10 (.fork (.alt 11 (.fork (.alt 13 .done .stop)) .stop)) .stop)) .stop)) .stop))) (.alt 7 (.fork (.alt 6 (.fork (.alt 10 (.fork (.alt 11 (.fork (.alt 12 (.fork (.alt 13 .done .stop)) .stop)) (.alt 12 (.fork (.alt 11 (.fork (.alt 13 .done .stop)) .stop)) .stop))) (.alt 12 (.fork (.alt 10 (.fork (.alt 11 (.fork (.alt 13 .done .stop)) .stop)) .stop)) .stop))) (.alt 12 (.fork (.alt 6 (.fork (.alt 10 (.fork (.alt 11 (.fork (.alt 13 .done .stop)) .stop)) .stop)) .stop)) .stop))) (.alt 12 (.fork (.alt 6 (.fork (.alt 7 (.fork (.alt 10 (.fork (.alt 11 (.fork (.alt 13 .done .stop)) .stop)) .stop)) .stop)) (.alt 7 (.fork (.alt 6 (.fork (.alt 10 (.fork (.alt 11 (.fork (.alt 13 .done .stop)) .stop)) .stop)) .stop)) .stop))) .stop)))) (.alt 7 (.fork (.alt 2 (.fork (.alt 6 (.fork (.alt 10 (.fork (.alt 11 (.fork (.alt 12 (.fork (.alt 13 .done .stop)) .stop)) (.alt 12 (.fork (.alt 11 (.fork (.alt 13 .done .stop)) .stop)) .stop))) (.alt 12 (.fork (.alt 10 (.fork (.alt 11 (.fork (.alt 13 .done .stop)) .stop)) .stop)) .stop))) (.alt 12 (.fork (.alt 6 (.fork (.alt 10 (.fork (.alt 11 (.fork (.alt 13 .done .stop)) .stop)) .stop)) .stop)) .stop))) (.alt 12 (.fork (.alt 2 (.fork (.alt 6 (.fork (.alt 10 (.fork (.alt 11 (.fork (.alt 13 .done .stop)) .stop)) .stop)) .stop)) .stop)) .stop))) (.alt 12 (.fork (.alt 2 (.fork (.alt 6 (.fork (.alt 7 (.fork (.alt 10 (.fork (.alt 11 (.fork (.alt 13 .done .stop)) .stop)) .stop)) .stop)) (.alt 7 (.fork (.alt 6 (.fork (.alt 10 (.fork (.alt 11 (.fork (.alt 13 .done .stop)) .stop)) .stop)) .stop)) .stop))) (.alt 7 (.fork (.alt 2 (.fork (.alt 6 (.fork (.alt 10 (.fork (.alt 11 (.fork (.alt 13 .done .stop)) .stop)) .stop)) .stop)) .stop)) .stop))) .stop)))) (.alt 7 (.fork (.alt 2 (.fork (.alt 3 (.fork (.alt 6 (.fork (.alt 10 (.fork (.alt 11 (.fork (.alt 12 (.fork (.alt 13 .done .stop)) .stop)) (.alt 12 (.fork (.alt 11 (.fork (.alt 13 .done .stop)) .stop)) .stop))) (.alt 12 (.fork (.alt 10 (.fork (.alt 11 (.fork (.alt 13 .done .stop)) .stop)) .stop)) .stop))) (.alt 12 (.fork (.alt 6 (.fork (.alt 10 (.fork (.alt 11 (.fork (.alt 13 .done .stop)) .stop)) .stop)) .stop)) .stop))) (.alt 12 (.fork (.alt 3 (.fork (.alt 6 (.fork (.alt 10 (.fork (.alt 11 (.fork (.alt 13 .done .stop)) .stop)) .stop)) .stop)) .stop)) .stop))) (.alt 3 (.fork (.alt 2 (.fork (.alt 6 (.fork (.alt 10 (.fork (.alt 11 (.fork (.alt 12 (.fork (.alt 13 .done .stop)) .stop)) (.alt 12 (.fork (.alt 11 (.fork (.alt 13 .done .stop)) .stop)) .stop))) (.alt 12 (.fork (.alt 10 (.fork (.alt 11 (.fork (.alt 13 .done .stop)) .stop)) .stop)) .stop))) (.alt 12 (.fork (.alt 6 (.fork (.alt 10 (.fork (.alt 11 (.fork (.alt 13 .done .stop)) .stop)) .stop)) .stop)) .stop))) (.alt 12 (.fork (.alt 2 (.fork (.alt 6 (.fork (.alt 10 (.fork (.alt 11 (.fork (.alt 13 .done .stop)) .stop)) .stop)) .stop)) .stop)) .stop))) (.alt 12 (.fork (.alt 2 (.fork (.alt 3 (.fork (.alt 6 (.fork (.alt 10 (.fork (.alt 11 (.fork (.alt 13 .done .stop)) .stop)) .stop)) .stop)) .stop)) (.alt 3 (.fork (.alt 2 (.fork (.alt 6 (.fork (.alt 10 (.fork (.alt 11 (.fork (.alt 13 .done .stop)) .stop)) .stop)) .stop)) .stop)) .stop))) .stop)))) (.alt 12 (.fork (.alt 2 (.fork (.alt 3 (.fork (.alt 6 (.fork (.alt 7 (.fork (.alt 10 (.fork (.alt 11 (.fork (.alt 13 .done .stop)) .stop)) .stop)) .stop)) (.alt 7 (.fork (.alt 6 (.fork (.alt 10 (.fork (.alt 11 (.fork (.alt 13 .done .stop)) .stop)) .stop)) .stop)) .stop))) (.alt 7 (.fork (.alt 3 (.fork (.alt 6 (.fork (.alt 10 (.fork (.alt 11 (.fork (.alt 13 .done .stop)) .stop)) .stop)) .stop)) .stop)) .stop))) (.alt 3 (.fork (.alt 2 (.fork (.alt 6 (.fork (.alt 7 (.fork (.alt 10 (.fork (.alt 11 (.fork (.alt 13 .done .stop)) .stop)) .stop)) .stop)) (.alt 7 (.fork (.alt 6 (.fork (.alt 10 (.fork (.alt 11 (.fork (.alt 13 .done .stop)) .stop)) .stop)) .stop)) .stop))) (.alt 7 (.fork (.alt 2 (.fork (.alt 6 (.fork (.alt 10 (.fork (.alt 11 (.fork (.alt 13 .done .stop)) .stop)) .stop)) .stop)) .stop)) .stop))) (.alt 7 (.fork (.alt 2 (.fork (.alt 3 (.fork (.alt 6 (.fork (.alt 10 (.fork (.alt 11 (.fork (.alt 13 .done .stop)) .stop)) .stop)) .stop)) .stop)) (.alt 3 (.fork (.alt 2 (.fork (.alt 6 (.fork (.alt 10 (.fork (.alt 11 (.fork (.alt 13 .done .stop)) .stop)) .stop)) .stop)) .stop)) .stop))) .stop)))) .stop))))))))))) [1, 2] [] [3] [.set 3 (.one (.ptr ⟨3, [], 0⟩))] [(3, ⟨true, [.own (.sl 1 (h.Memory.map dIntS)), .own (.sl 9 ([])), .own (.sl 4 (h.Buffer.map dEntry)), .own (.sl 4 (h.IoBuffer.map dEntry))]⟩)] ?_
 refine ⟨?_, ?_⟩
 ·repeat' first | exact True.intro | refine And.intro ?_ ?_ | (intro _ _) | refine callL (impl_copyMem_f _).k ?_ | refine appPq ?_ | refine appP ?_ | exact rfl | (refine eqS ?_; simp [*]; done)
 refine len ?_
 refine loopA [2, 3, 19, 20] [] [3] (fun (i : Nat) => [.set 21 (I i)]) (fun (i : Nat) => [(3, ⟨true, [.own (.sl 1 (h.Memory.map dIntS)), .own (.sl 9 ((h.Mons.take i).map dMon)), .own (.sl 4 (h.Buffer.map dEntry)), .own (.sl 4 (h.IoBuffer.map dEntry))]⟩)]) (fun (i : Nat) => i ≤ h.Mons.length) (fun (i : Nat) => h.Mons.length - i) (0) (Nat.zero_le _) ?_
 refine ⟨hda, fun i hyp N1 hN1 => ?_⟩
 have hyp : i ≤ h.Mons.length := hyp
 refine cnd (fun hb => ?_) (fun hb => ?_)
 ·first | refine ixm (by assumption) ?_ | refine bnd ?_ | refine bndi ?_ | refine ixkq (fun y23 hy23 qy23 ly23 => ?_) | refine ixiq (fun y23 hy23 qy23 ly23 => ?_)
  first | refine ixs ?_ | refine ixo (by assumption) ?_ | refine ixoq (fun z1 hz1 qz1 lz1 => ?_) | skip
  refine regU [5, 7] [(0, 0), (1, 0), (2, 0), (3, 1), (4, 1), (5, 1), (6, 0), (7, 1)] ?_
  refine callG (impl_copyMon_f _).k ?_
  first | refine appOq ?_ | refine appO ?_
  refine rng ?_
  refine hN1 _ _ _ ?_
  refine nxa (i + 1) (by omega)
 ·refine hN1 _ _ _ ?_
  exact (by rw [List.take_of_length_le (by omega)]; rfl)
end Go.Proofs.YteelmdpahpggkaaGreat.T

namespace Go.Proofs.YteelmdpahpggkaaGreat.T
open Go
set_option linter.unusedVariables false
set_option linter.unusedSimpArgs false
set_option maxRecDepth 100000
set_option maxHeartbeats 8000000
instance wlMon (xs : List VMon) : WL (xs.map dMon) := ⟨fun d hd => by obtain ⟨x, _, rfl⟩ := List.mem_map.1 hd; exact inferInstanceAs (WR (dMon x))⟩
theorem rngS {a : Int} {k : Prop} (c : k) (lo : -9223372036854775808 ≤ a := by first | omega | (simp only [List.length_append, List.length_map, List.length_cons, List.length_nil]; omega)) (hi : a ≤ 9223372036854775807 := by first | omega | (simp only [List.length_append, List.length_map, List.length_cons, List.length_nil]; omega)) : RngW a k := ⟨lo, hi, c⟩
abbrev landN (h : VHost) (x : VMon) : Int := if (land h x).isSome then h.Mons.length else -1
theorem spec_Land_f (h : VHost) (x : VMon) [Q (SmHost h)] [Q (SmMon x)] : Fun Tryz.prog 24 [A (rHost h), A (rMon x)] (RG [.a (rHost ((land h x).getD h)), .c (.v (.int .i64 (landN h x))), .c (.v (.bool (land h x).isSome))]) := by
 refine Fun.w 42 Tryz.func24 fun w g0 hM => ?_
 have hl0 := hM.1.2.1.map
 have hl1 := hM.2.1.1.map
 refine callG (spec_l21Copy_f h).k ?_
 refine callP (spec_HostOk_f h).k ?_
 refine cnd (fun hg3 => ?_) (fun hg3 => ?_)
 ·exact (by rw [landN, show land h x = none from (by apply land_no; first | (left; assumption) | (right; left; omega) | (right; right; left; assumption) | (right; right; right; omega))]; rfl)
 ·refine len ?_
  refine cnd (fun hg9 => ?_) (fun hg9 => ?_)
  ·exact (by rw [landN, show land h x = none from (by apply land_no; first | (left; assumption) | (right; left; omega) | (right; right; left; assumption) | (right; right; right; omega))]; rfl)
  ·refine callP (spec_MonOk_f x).k ?_
   refine cnd (fun hg14 => ?_) (fun hg14 => ?_)
   ·exact (by rw [landN, show land h x = none from (by apply land_no; first | (left; assumption) | (right; left; omega) | (right; right; left; assumption) | (right; right; right; omega))]; rfl)
   ·refine callP (spec_Mapped_f x.Outer).k ?_
    refine cnd (fun hb => ?_) (fun hb => ?_)
    ·exact (by rw [landN, show land h x = none from (by apply land_no; first | (left; assumption) | (right; left; omega) | (right; right; left; assumption) | (right; right; right; omega))]; rfl)
    ·refine regU [5, 7] [(0, 0), (1, 0), (2, 0), (3, 1), (4, 1), (5, 1), (6, 0), (7, 1)] ?_
     refine callG (spec_l21Mon_f x).k ?_
     first | refine appOq ?_ | refine appO ?_
     refine regT [0, 1, 2, 3, 4, 5] [] [] (.fork (.alt 0 (.fork (.alt 1 (.fork (.alt 2 (.fork (.alt 3 (.fork (.alt 4 (.fork (.alt 5 (.quiet 6 0 (.quiet 7 0 .done)) .stop)) (.alt 5 (.fork (.alt 4 (.quiet 6 0 (.quiet 7 0 .done)) .stop)) .stop))) (.alt 5 (.fork (.alt 3 (.fork (.alt 4 (.quiet 6 0 (.quiet 7 0 .done)) .stop)) .stop)) .stop))) (.alt 5 (.fork (.alt 2 (.fork (.alt 3 (.fork (.alt 4 (.quiet 6 0 (.quiet 7 0 .done)) .stop)) .stop)) .stop)) .stop))) (.alt 5 (.fork (.alt 1 (.fork (.alt 2 (.fork (.alt 3 (.fork (.alt 4 (.quiet 6 0 (.quiet 7 0 .done)) .stop)) .stop)) .stop)) .stop)) .stop))) (.alt 1 (.fork (.alt 0 (.fork (.alt 2 (.fork (.alt 3 (.fork (.alt 4 (.fork (.alt 5 (.quiet 6 0 (.quiet 7 0 .done)) .stop)) (.alt 5 (.fork (.alt 4 (.quiet 6 0 (.quiet 7 0 .done)) .stop)) .stop))) (.alt 5 (.fork (.alt 3 (.fork (.alt 4 (.quiet 6 0 (.quiet 7 0 .done)) .stop)) .stop)) .stop))) (.alt 5 (.fork (.alt 2 (.fork (.alt 3 (.fork (.alt 4 (.quiet 6 0 (.quiet 7 0 .done)) .stop)) .stop)) .stop)) .stop))) (.alt 2 (.fork (.alt 0 (.fork (.alt 3 (.fork (.alt 4 (.fork (.alt 5 (.quiet 6 0 (.quiet 7 0 .done)) .stop)) (.alt 5 (.fork (.alt 4 (.quiet 6 0 (.quiet 7 0 .done)) .stop)) .stop))) (.alt 5 (.fork (.alt 3 (.fork (.alt 4 (.quiet 6 0 (.quiet 7 0 .done)) .stop)) .stop)) .stop))) (.alt 3 (.fork (.alt 0 (.fork (.alt 4 (.fork (.alt 5 (.quiet 6 0 (.quiet 7 0 .done)) .stop)) (.alt 5 (.fork (.alt 4 (.quiet 6 0 (.quiet 7 0 .done)) .stop)) .stop))) (.alt 4 (.fork (.alt 0 (.fork (.alt 5 (.quiet 6 0 (.quiet 7 0 .done)) .stop)) .stop)) .stop))) .stop))) .stop))) .stop))) ?_
     repeat' first | exact True.intro | refine And.intro ?_ ?_ | (intro _ _) | refine len ?_ | refine rngS ?_
     all_goals exact (by rw [landN, land_yes (by assumption) (by omega) (by assumption) (by omega)]; show RG [.a (rHost { h with Mons := h.Mons ++ [x] }), .c (.v (.int .i64 h.Mons.length)), .c (.v (.bool true))] _; rw [land_row]; first | rfl | (have e1 : ((h.Mons.length : Int) + 1 - 1) = h.Mons.length := (by omega); rw [← e1]; rfl))
theorem impl_Land_f (h : VHost) (x : VMon) [Q (SmHost h)] [Q (SmMon x)] : Fun Tryz.prog 27 [A (rHost h), A (rMon x)] (RG [.a (rHost ((land h x).getD h)), .c (.v (.int .i64 (landN h x))), .c (.v (.bool (land h x).isSome))]) := by
 refine Fun.w 42 Tryz.func27 fun w g0 hM => ?_
 have hl0 := hM.1.2.1.map
 have hl1 := hM.2.1.1.map
 refine callG (impl_copyHost_f h).k ?_
 refine callP (impl_HostOk_f h).k ?_
 refine cnd (fun hg3 => ?_) (fun hg3 => ?_)
 ·exact (by rw [landN, show land h x = none from (by apply land_no; first | (left; assumption) | (right; left; omega) | (right; right; left; assumption) | (right; right; right; omega))]; rfl)
 ·refine len ?_
  refine cnd (fun hg9 => ?_) (fun hg9 => ?_)
  ·exact (by rw [landN, show land h x = none from (by apply land_no; first | (left; assumption) | (right; left; omega) | (right; right; left; assumption) | (right; right; right; omega))]; rfl)
  ·refine callP (impl_MonOk_f x).k ?_
   refine cnd (fun hg14 => ?_) (fun hg14 => ?_)
   ·exact (by rw [landN, show land h x = none from (by apply land_no; first | (left; assumption) | (right; left; omega) | (right; right; left; assumption) | (right; right; right; omega))]; rfl)
   ·refine callP (impl_Mapped_f x.Outer).k ?_
    refine cnd (fun hb => ?_) (fun hb => ?_)
    ·exact (by rw [landN, show land h x = none from (by apply land_no; first | (left; assumption) | (right; left; omega) | (right; right; left; assumption) | (right; right; right; omega))]; rfl)
    ·refine regU [5, 7] [(0, 0), (1, 0), (2, 0), (3, 1), (4, 1), (5, 1), (6, 0), (7, 1)] ?_
     refine callG (impl_copyMon_f x).k ?_
     first | refine appOq ?_ | refine appO ?_
     refine regT [0, 1, 2, 3, 4] [] [] (.fork (.alt 0 (.fork (.alt 1 (.fork (.alt 2 (.fork (.alt 3 (.fork (.alt 4 (.quiet 5 0 (.quiet 6 0 .done)) .stop)) (.alt 4 (.fork (.alt 3 (.quiet 5 0 (.quiet 6 0 .done)) .stop)) .stop))) (.alt 4 (.fork (.alt 2 (.fork (.alt 3 (.quiet 5 0 (.quiet 6 0 .done)) .stop)) .stop)) .stop))) (.alt 4 (.fork (.alt 1 (.fork (.alt 2 (.fork (.alt 3 (.quiet 5 0 (.quiet 6 0 .done)) .stop)) .stop)) .stop)) .stop))) (.alt 1 (.fork (.alt 0 (.fork (.alt 2 (.fork (.alt 3 (.fork (.alt 4 (.quiet 5 0 (.quiet 6 0 .done)) .stop)) (.alt 4 (.fork (.alt 3 (.quiet 5 0 (.quiet 6 0 .done)) .stop)) .stop))) (.alt 4 (.fork (.alt 2 (.fork (.alt 3 (.quiet 5 0 (.quiet 6 0 .done)) .stop)) .stop)) .stop))) (.alt 2 (.fork (.alt 0 (.fork (.alt 3 (.fork (.alt 4 (.quiet 5 0 (.quiet 6 0 .done)) .stop)) (.alt 4 (.fork (.alt 3 (.quiet 5 0 (.quiet 6 0 .done)) .stop)) .stop))) (.alt 3 (.fork (.alt 0 (.fork (.alt 4 (.quiet 5 0 (.quiet 6 0 .done)) .stop)) .stop)) .stop))) .stop))) .stop))) ?_
     repeat' first | exact True.intro | refine And.intro ?_ ?_ | (intro _ _) | refine len ?_
     all_goals exact (by rw [landN, land_yes (by assumption) (by omega) (by assumption) (by omega)]; show RG [.a (rHost { h with Mons := h.Mons ++ [x] }), .c (.v (.int .i64 h.Mons.length)), .c (.v (.bool true))] _; rw [land_row]; first | rfl | (have e1 : ((h.Mons.length : Int) + 1 - 1) = h.Mons.length := (by omega); rw [← e1]; rfl))
end Go.Proofs.YteelmdpahpggkaaGreat.T

namespace Go.Proofs.YteelmdpahpggkaaGreat
open Go.Shelf
set_option maxRecDepth 100000
def laysMul_ren : Go.Shelf.Ren := ⟨fun | 212 => 304 | 263 => 399 | 264 => 400 | n => n, fun | 46 => 291 | 51 => 337 | 146 => 338 | 53 => 340 | 148 => 341 | n => n, fun | n => n⟩
theorem laysMul : Go.Proofs.Lays.n212 Tryz.prog laysMul_ren := {
 mixed := by kernel_rfl
 f212 := Tryz.func304.trans (congrArg some (by kernel_rfl))
 f263 := Tryz.func399.trans (congrArg some (by kernel_rfl))
 f264 := Tryz.func400.trans (congrArg some (by kernel_rfl))
 t46 := Tryz.underlying291
 a46 := Tryz.isAgg291
 z46 := Tryz.sizeOf291
 v46 := Tryz.zeroValue291
 t51 := Tryz.underlying337
 a51 := Tryz.isAgg337
 z51 := Tryz.sizeOf337
 v51 := Tryz.zeroValue337
 t53 := Tryz.underlying340
 a53 := Tryz.isAgg340
 z53 := Tryz.sizeOf340
 v53 := Tryz.zeroValue340
 t146 := Tryz.underlying338
 a146 := Tryz.isAgg338
 z146 := Tryz.sizeOf338
 v146 := Tryz.zeroValue338
 t148 := Tryz.underlying341
 a148 := Tryz.isAgg341
 z148 := Tryz.sizeOf341
 v148 := Tryz.zeroValue341 }
end Go.Proofs.YteelmdpahpggkaaGreat

