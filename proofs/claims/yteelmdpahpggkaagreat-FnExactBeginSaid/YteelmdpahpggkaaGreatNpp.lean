/- Monitors made anew, hosts begun again, both sides. PRINTED by gen3.py. No condition. -/
import Derived.Test.YteelmdpahpggkaaGreatNop
namespace Go.Proofs.YteelmdpahpggkaaGreat.T
open Go
set_option linter.unusedVariables false
set_option linter.unusedSimpArgs false
set_option maxRecDepth 100000
set_option maxHeartbeats 8000000

theorem Fun.nilArg {P : Program} {f : FuncId} {R : Res → Prop} {z z' : Nat} (h : Fun P f [.one (.c (.ro (.sl z [])))] R) : Fun P f [.one (.c (.ro (.sl z' [])))] R := fun w g args k hg hs ha => h w g args k hg hs fun i t u hi hu => by
  cases i with
  | succ i => simp at hi
  | zero =>
    simp only [List.getElem?_cons_zero, Option.some.injEq] at hi
    subst hi
    have h1 := ha 0 _ u rfl hu
    cases h1 with
    | one _ _ h1 =>
      cases h1 with
      | c _ _ h1 =>
        have h2 : Ro w g.o (.sl z' []) u := h1
        refine .one _ _ (.c _ _ ?_)
        show Ro w g.o (.sl z []) u
        cases h2 with
        | nil _ ad c => exact .nil z ad c
        | sl _ _ b off n c us hn => simp only [List.length_nil] at hn; subst hn; exact .nil z _ c
/-- a monitor while its guests are made -/
def monGo (ps : List (List VIns)) (i : Nat) : VMon := ⟨tableNew 8, memNew 8, List.replicate 8 false, (ps.take i).map guestNew, [], 0, 0, List.replicate i keptNew, 0⟩
theorem monGo_end {ps : List (List VIns)} {i : Nat} (h : i = min ps.length 2) : monGo ps i = monNew ps := by
  have e : ps.take i = ps.take 2 := by
    subst h
    rcases Nat.le_total ps.length 2 with h | h
    · rw [Nat.min_eq_left h, List.take_of_length_le (Nat.le_refl _), List.take_of_length_le h]
    · rw [Nat.min_eq_right h]
  unfold monGo monNew
  rw [e]
  congr 1
  rw [List.map_const', List.length_take, h, Nat.min_comm]
theorem impl_MonNew_f (ps : List (List VIns)) [Q (SmInsSS ps)] : Fun Tryz.prog 80 [L 1 (ps.map dInsS)] (RG [.a (rMon (monNew ps))]) := by
  refine Fun.w 35 Tryz.func80 fun w g0 hM => ?_
  have hl0 := hM.1.map
  refine regTJ [5] [] [] (.fork (.alt 0 (.fork (.alt 1 (.fork (.alt 2 (.fork (.alt 3 (.fork (.alt 4 (.fork (.alt 5 .done .stop)) .stop)) (.alt 4 (.fork (.alt 3 (.fork (.alt 5 .done .stop)) .stop)) .stop))) (.alt 4 (.fork (.alt 2 (.fork (.alt 3 (.fork (.alt 5 .done .stop)) .stop)) .stop)) .stop))) (.alt 2 (.fork (.alt 1 (.fork (.alt 3 (.fork (.alt 4 (.fork (.alt 5 .done .stop)) .stop)) (.alt 4 (.fork (.alt 3 (.fork (.alt 5 .done .stop)) .stop)) .stop))) (.alt 4 (.fork (.alt 1 (.fork (.alt 3 (.fork (.alt 5 .done .stop)) .stop)) .stop)) .stop))) (.alt 4 (.fork (.alt 1 (.fork (.alt 2 (.fork (.alt 3 (.fork (.alt 5 .done .stop)) .stop)) .stop)) (.alt 2 (.fork (.alt 1 (.fork (.alt 3 (.fork (.alt 5 .done .stop)) .stop)) .stop)) .stop))) .stop)))) (.alt 2 (.fork (.alt 0 (.fork (.alt 1 (.fork (.alt 3 (.fork (.alt 4 (.fork (.alt 5 .done .stop)) .stop)) (.alt 4 (.fork (.alt 3 (.fork (.alt 5 .done .stop)) .stop)) .stop))) (.alt 4 (.fork (.alt 1 (.fork (.alt 3 (.fork (.alt 5 .done .stop)) .stop)) .stop)) .stop))) (.alt 4 (.fork (.alt 0 (.fork (.alt 1 (.fork (.alt 3 (.fork (.alt 5 .done .stop)) .stop)) .stop)) .stop)) .stop))) (.alt 4 (.fork (.alt 0 (.fork (.alt 1 (.fork (.alt 2 (.fork (.alt 3 (.fork (.alt 5 .done .stop)) .stop)) .stop)) (.alt 2 (.fork (.alt 1 (.fork (.alt 3 (.fork (.alt 5 .done .stop)) .stop)) .stop)) .stop))) (.alt 2 (.fork (.alt 0 (.fork (.alt 1 (.fork (.alt 3 (.fork (.alt 5 .done .stop)) .stop)) .stop)) .stop)) .stop))) .stop)))) [0, 2] [] [3] [.set 3 (.one (.ptr ⟨3, [], 0⟩))] [(3, ⟨true, [.own (.sl 2 ((tableNew 8).map dSlot)), .own (.sl 1 ((memNew 8).map dIntS)), .own (.sl 1 ((List.replicate 8 false).map dBool)), .own (.sl 15 ([])), .own (.sl 1 []), .own (.v (.int .i64 0)), .own (.v (.int .i64 0)), .own (.sl 2 ([])), .own (.v (.int .i64 0))]⟩)] ?_
  refine ⟨?_, ?_⟩
  · repeat' first | exact True.intro | refine And.intro ?_ ?_ | (intro _ _) | refine callL (impl_TableNew_f 8 (by omega)).k ?_ | refine callL (impl_MemNew_f 8 (by omega)).k ?_ | refine mkw 8 ?_ | exact rfl | (refine eqS ?_; simp [*]; done)
  refine len ?_
  refine cut 0 (min ps.length 2) ?_ rfl (by split <;> omega) (by omega) (by simp; omega)
  refine lenq (min ps.length 2) ?_ (by show ((ps.map dInsS).take (min ps.length 2)).length = _; rw [List.length_take, List.length_map]; omega)
  refine loopA [2, 3, 14, 15] [] [3] (fun (i : Nat) => [.set 16 (I i)]) (fun (i : Nat) => [(3, ⟨true, [.own (.sl 2 ((tableNew 8).map dSlot)), .own (.sl 1 ((memNew 8).map dIntS)), .own (.sl 1 ((List.replicate 8 false).map dBool)), .own (.sl 15 (((ps.take i).map guestNew).map dGuest)), .own (.sl 1 []), .own (.v (.int .i64 0)), .own (.v (.int .i64 0)), .own (.sl 2 ((List.replicate i keptNew).map dKept)), .own (.v (.int .i64 0))]⟩)]) (fun (i : Nat) => i ≤ 2 ∧ i ≤ ps.length) (fun (i : Nat) => 2 - i) (0) (⟨by omega, by omega⟩) ?_
  refine ⟨hda, fun i hyp N1 hN1 => ?_⟩
  have hyp : i ≤ 2 ∧ i ≤ ps.length := hyp
  have hyp1 := hyp.1
  have hyp2 := hyp.2
  refine cnd (fun hb => ?_) (fun hb => ?_)
  · obtain ⟨p, hp⟩ : ∃ p, ps[i]? = some p := ⟨_, List.getElem?_eq_getElem (by omega)⟩
    have qp : Q (SmInsS p) := ⟨ElS.h p (List.mem_of_getElem? hp)⟩
    refine ixd (m := i) (d := dInsS p) (by show ((ps.map dInsS).take (min ps.length 2))[i]? = _; rw [List.getElem?_take, if_pos (by omega), List.getElem?_map, hp]; rfl) ?_
    first | refine ixs ?_ | refine ixo (by assumption) ?_ | refine ixoq (fun z1 hz1 qz1 lz1 => ?_) | skip
    refine regU [5, 7] [(0, 0), (1, 0), (2, 0), (3, 1), (4, 1), (5, 1), (6, 0), (7, 1)] ?_
    refine callG (impl_GuestNew_f _).k ?_
    first | refine appOq ?_ | refine appO ?_
    refine regU [4, 6] [(0, 0), (1, 0), (2, 1), (3, 1), (4, 1), (5, 0), (6, 1)] ?_
    refine callG (impl_KeptNew_f).k ?_
    first | refine appOq ?_ | refine appO ?_
    refine rng ?_
    refine hN1 _ _ _ ?_
    refine nxa (i + 1) (⟨by omega, by omega⟩) (by repeat' first | exact rfl | refine And.intro ?_ ?_ | exact True.intro | (refine eqS ?_; simp [List.take_add_one, List.set_set, rangeF_succ, List.replicate_succ', List.take_add_one, hp, *]; done) | (refine eqS ?_; exact congrArg (fun z : Int => (I z : TS)) (by omega)))
  · refine hN1 _ _ _ ?_
    exact (by rw [show rMon (monNew ps) = rMon (monGo ps i) from congrArg rMon (monGo_end (by omega)).symm]; rfl)
end Go.Proofs.YteelmdpahpggkaaGreat.T

