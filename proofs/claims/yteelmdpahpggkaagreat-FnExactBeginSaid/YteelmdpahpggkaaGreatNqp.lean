/- Begin, both sides. PRINTED by gen3.py. No condition. -/
import Derived.Test.YteelmdpahpggkaaGreatNpp
namespace Go.Proofs.YteelmdpahpggkaaGreat.T
open Go
set_option linter.unusedVariables false
set_option linter.unusedSimpArgs false
set_option maxRecDepth 100000
set_option maxHeartbeats 8000000

theorem savedPre_of {s : VSaved} (h : savedOk s = true) : s.Traps.length = s.Mons.length ∧ s.Own.length = s.Mons.length ∧ s.Mons.length ≤ 3 := by
  have h1 := (saved_yes h).1
  simp only [savedPre, Bool.and_eq_true, decide_eq_true_eq] at h1
  omega
theorem saved_in {s : VSaved} {k : Nat} {u : VBare} {t o : Int} (h : savedOk s = true) (hu : s.Mons[k]? = some u) (ht : s.Traps[k]? = some t) (ho : s.Own[k]? = some o) : u.Guests.length ≤ 2 := by
  have h1 := (saved_yes h).2 k (List.getElem?_eq_some_iff.1 hu).1
  rw [savedAt_eq hu ht ho] at h1
  simp only [Bool.and_eq_true, bareOk, decide_eq_true_eq] at h1
  omega
theorem begin_no {s : VSaved} (h : savedOk s = false) : beginH s = none := by unfold beginH; rw [h]; rfl
theorem begin_yes {s : VSaved} (h : savedOk s = true) : beginH s = some ⟨memNew 12, beginTo s s.Mons.length, [], []⟩ := by unfold beginH; rw [h]; rfl
instance (s : VSaved) (n : Nat) : LenX (beginTo s n) n := ⟨by simp [beginTo]⟩
abbrev beginR (s : VSaved) : Res → Prop := RG [.a (rHost ((beginH s).getD noHost)), .c (.v (.bool (beginH s).isSome))]
theorem impl_Begin_f (s : VSaved) [Q (SmSaved s)] : Fun Tryz.prog 16 [A (rSaved s)] (beginR s) := by
  refine Fun.w 70 Tryz.func16 fun w g0 hM => ?_
  have hl0 := hM.1.1.map
  refine callP (impl_SavedOk_f s).k ?_
  refine cnd (fun hb => ?_) (fun hb => ?_)
  · exact (by show beginR s _; unfold beginR; rw [begin_no (by assumption)]; rfl)
  · have hok : savedOk s = true := by assumption
    have hpl := savedPre_of hok
    refine callL (impl_MemNew_f 12 (by omega)).k ?_
    refine len ?_
    refine loopA [1, 2, 3, 4, 15, 16] [] [4, 13] (fun (i : Nat) => [.set 17 (I i)]) (fun (i : Nat) => [(4, ⟨true, [.own (.sl 1 ((memNew 12).map dIntS)), .own (.sl 9 ((beginTo s i).map dMon)), .own (.sl 4 []), .own (.sl 4 [])]⟩)]) (fun (i : Nat) => i ≤ s.Mons.length) (fun (i : Nat) => s.Mons.length - i) (0) (Nat.zero_le _) ?_
    refine ⟨hda, fun i hyp N1 hN1 => ?_⟩
    have hyp : i ≤ s.Mons.length := hyp
    refine cnd (fun hb2 => ?_) (fun hb2 => ?_)
    · obtain ⟨u, hu⟩ : ∃ u, s.Mons[i]? = some u := ⟨_, List.getElem?_eq_getElem (by omega)⟩
      obtain ⟨t, ht⟩ : ∃ t, s.Traps[i]? = some t := ⟨_, List.getElem?_eq_getElem (by omega)⟩
      obtain ⟨o, ho⟩ : ∃ o, s.Own[i]? = some o := ⟨_, List.getElem?_eq_getElem (by omega)⟩
      have hug := saved_in hok hu ht ho
      have qu : Q (SmBare u) := ⟨ElS.h u (List.mem_of_getElem? hu)⟩
      refine ixm hu ?_
      first | refine ixs ?_ | refine ixo (by assumption) ?_ | refine ixoq (fun z1 hz1 qz1 lz1 => ?_) | skip
      refine callG ((impl_MonNew_f []).nilArg).k ?_
      refine callL (impl_copyMem_f u.Memory).k ?_
      refine callL (impl_copyGuests_f u.Guests).k ?_
      refine callL (impl_copyInts_f u.Outs).k ?_
      refine ixm ht ?_
      first | refine ixs ?_ | refine ixo (by assumption) ?_ | refine ixoq (fun z2 hz2 qz2 lz2 => ?_) | skip
      refine ixm ho ?_
      first | refine ixs ?_ | refine ixo (by assumption) ?_ | refine ixoq (fun z3 hz3 qz3 lz3 => ?_) | skip
      refine len ?_
      refine loopA [1, 2, 3, 4, 7, 15, 16, 17, 52] [] [7, 22] (fun (k : Nat) => [.set 53 (I k)]) (fun (k : Nat) => [(7, ⟨true, [.own (.sl 2 ((tableNew 8).map dSlot)), .own (.sl 1 (u.Memory.map dIntS)), .own (.sl 1 ((List.replicate 8 false).map dBool)), .own (.sl 15 (u.Guests.map dGuest)), .own (.sl 1 (u.Outs.map dInt)), .own (.v (.int .i64 u.Pending)), .own (.v (.int .i64 t)), .own (.sl 2 ((List.replicate k keptNew).map dKept)), .own (.v (.int .i64 o))]⟩)]) (fun (k : Nat) => k ≤ u.Guests.length) (fun (k : Nat) => u.Guests.length - k) (0) (Nat.zero_le _) ?_
      refine ⟨hda, fun k hypk N2 hN2 => ?_⟩
      have hypk : k ≤ u.Guests.length := hypk
      refine cnd (fun hb3 => ?_) (fun hb3 => ?_)
      · refine regU [4, 6] [(0, 0), (1, 0), (2, 1), (3, 1), (4, 1), (5, 0), (6, 1)] ?_
        refine callG (impl_KeptNew_f).k ?_
        first | refine appOq ?_ | refine appO ?_
        refine rng ?_
        refine hN2 _ _ _ ?_
        refine nxa (k + 1) (by omega) (by repeat' first | exact rfl | refine And.intro ?_ ?_ | exact True.intro | (refine eqS ?_; simp [List.take_add_one, List.set_set, rangeF_succ, List.replicate_succ', *]; done) | (refine eqS ?_; exact congrArg (fun z : Int => (I z : TS)) (by omega)))
      · refine hN2 _ _ _ ?_
        first | refine appOq ?_ | refine appO ?_
        refine rng ?_
        refine hN1 _ _ _ ?_
        refine nxa (i + 1) (by omega) (by repeat' first | exact rfl | refine And.intro ?_ ?_ | exact True.intro | (refine eqS ?_; rw [begin_next hu ht ho, ← monTo_end (u := u) (t := t) (o := o) (k := k) (by omega)]; simp [monTo, monBegin]; done))
    · refine hN1 _ _ _ ?_
      exact (by show beginR s _; unfold beginR; rw [begin_yes hok, show s.Mons.length = i by omega]; rfl)

theorem spec_Begin_f (s : VSaved) [Q (SmSaved s)] : Fun Tryz.prog 14 [A (rSaved s)] (beginR s) := by
  refine Fun.w 69 Tryz.func14 fun w g0 hM => ?_
  have hl0 := hM.1.1.map
  refine callP (spec_SavedOk_f s).k ?_
  refine cnd (fun hb => ?_) (fun hb => ?_)
  · exact (by show beginR s _; unfold beginR; rw [begin_no (by assumption)]; rfl)
  · have hok : savedOk s = true := by assumption
    have hpl := savedPre_of hok
    refine callL (spec_MemNew_f 12 (by omega)).k ?_
    refine loopA [1, 2, 3, 4] [] [4, 14] (fun (i : Nat) => [.set 5 (I i)]) (fun (i : Nat) => [(4, ⟨true, [.own (.sl 1 ((memNew 12).map dIntS)), .own (.sl 9 ((beginTo s i).map dMon)), .own (.sl 4 []), .own (.sl 4 [])]⟩)]) (fun (i : Nat) => i ≤ s.Mons.length) (fun (i : Nat) => s.Mons.length - i) (0) (Nat.zero_le _) ?_
    refine ⟨hda, fun i hyp N1 hN1 => ?_⟩
    have hyp : i ≤ s.Mons.length := hyp
    refine len ?_
    refine cnd (fun hb2 => ?_) (fun hb2 => ?_)
    · obtain ⟨u, hu⟩ : ∃ u, s.Mons[i]? = some u := ⟨_, List.getElem?_eq_getElem (by omega)⟩
      obtain ⟨t, ht⟩ : ∃ t, s.Traps[i]? = some t := ⟨_, List.getElem?_eq_getElem (by omega)⟩
      obtain ⟨o, ho⟩ : ∃ o, s.Own[i]? = some o := ⟨_, List.getElem?_eq_getElem (by omega)⟩
      have hug := saved_in hok hu ht ho
      have qu : Q (SmBare u) := ⟨ElS.h u (List.mem_of_getElem? hu)⟩
      refine ixm hu ?_
      first | refine ixs ?_ | refine ixo (by assumption) ?_ | refine ixoq (fun z1 hz1 qz1 lz1 => ?_) | skip
      refine callG (spec_l17Copy_f u).k ?_
      refine regTJ [22] [] [] (.quiet 1 0 (.quiet 2 0 (.quiet 4 0 (.quiet 5 0 (.quiet 6 0 (.quiet 7 0 (.quiet 8 0 (.quiet 9 0 (.quiet 10 0 (.quiet 11 0 (.quiet 12 0 (.quiet 13 0 (.quiet 14 0 (.quiet 15 0 (.quiet 16 0 (.quiet 17 0 (.quiet 18 0 (.quiet 19 0 (.fork (.alt 0 (.fork (.alt 3 (.fork (.alt 20 (.fork (.alt 21 (.fork (.alt 22 .done .stop)) .stop)) (.alt 21 (.fork (.alt 20 (.fork (.alt 22 .done .stop)) .stop)) .stop))) (.alt 21 (.fork (.alt 3 (.fork (.alt 20 (.fork (.alt 22 .done .stop)) .stop)) .stop)) .stop))) (.alt 3 (.fork (.alt 0 (.fork (.alt 20 (.fork (.alt 21 (.fork (.alt 22 .done .stop)) .stop)) (.alt 21 (.fork (.alt 20 (.fork (.alt 22 .done .stop)) .stop)) .stop))) (.alt 21 (.fork (.alt 0 (.fork (.alt 20 (.fork (.alt 22 .done .stop)) .stop)) .stop)) .stop))) (.alt 21 (.fork (.alt 0 (.fork (.alt 3 (.fork (.alt 20 (.fork (.alt 22 .done .stop)) .stop)) .stop)) (.alt 3 (.fork (.alt 0 (.fork (.alt 20 (.fork (.alt 22 .done .stop)) .stop)) .stop)) .stop))) .stop)))))))))))))))))))))) [1, 2, 3, 4, 5, 6] [] [7, 6] [.set 7 (.one (.ptr ⟨7, [], 0⟩))] [(7, ⟨true, [.own (.sl 2 ((tableNew 8).map dSlot)), .own (.sl 1 (u.Memory.map dIntS)), .own (.sl 1 ((List.replicate 8 false).map dBool)), .own (.sl 15 (u.Guests.map dGuest)), .own (.sl 1 (u.Outs.map dInt)), .own (.v (.int .i64 u.Pending)), .own (.v (.int .i64 t)), .own (.sl 2 ([])), .own (.v (.int .i64 o))]⟩), (6, ⟨true, [.ref ⟨7, [], 1⟩, .ref ⟨7, [], 3⟩, .ref ⟨7, [], 4⟩, .own (.v (.int .i64 u.Pending))]⟩)] ?_
      refine ⟨?_, ?_⟩
      · repeat' first | exact True.intro | refine And.intro ?_ ?_ | (intro _ _) | refine callL (spec_TableNew_f 8 (by omega)).k ?_ | refine mkw 8 ?_ | refine ixm ht ?_ | refine ixs ?_ | refine ixo (by assumption) ?_ | refine ixoq (fun z2 hz2 qz2 lz2 => ?_) | refine ixm ho ?_ | refine ixoq (fun z3 hz3 qz3 lz3 => ?_) | exact rfl | (refine eqS ?_; simp [*]; done)
      refine loopA [1, 2, 3, 4, 5, 6, 7] [] [7, 48] (fun (k : Nat) => [.set 8 (I k)]) (fun (k : Nat) => [(7, ⟨true, [.own (.sl 2 ((tableNew 8).map dSlot)), .own (.sl 1 (u.Memory.map dIntS)), .own (.sl 1 ((List.replicate 8 false).map dBool)), .own (.sl 15 (u.Guests.map dGuest)), .own (.sl 1 (u.Outs.map dInt)), .own (.v (.int .i64 u.Pending)), .own (.v (.int .i64 t)), .own (.sl 2 ((List.replicate k keptNew).map dKept)), .own (.v (.int .i64 o))]⟩)]) (fun (k : Nat) => k ≤ u.Guests.length) (fun (k : Nat) => u.Guests.length - k) (0) (Nat.zero_le _) ?_
      refine ⟨hda, fun k hypk N2 hN2 => ?_⟩
      have hypk : k ≤ u.Guests.length := hypk
      refine len ?_
      refine cnd (fun hb3 => ?_) (fun hb3 => ?_)
      · refine regU [4, 6] [(0, 0), (1, 0), (2, 1), (3, 1), (4, 1), (5, 0), (6, 1)] ?_
        refine callG (spec_KeptNew_f).k ?_
        first | refine appOq ?_ | refine appO ?_
        refine rng ?_
        refine hN2 _ _ _ ?_
        refine nxa (k + 1) (by omega) (by repeat' first | exact rfl | refine And.intro ?_ ?_ | exact True.intro | (refine eqS ?_; simp [List.take_add_one, List.set_set, rangeF_succ, List.replicate_succ', *]; done) | (refine eqS ?_; exact congrArg (fun z : Int => (I z : TS)) (by omega)))
      · refine hN2 _ _ _ ?_
        first | refine appOq ?_ | refine appO ?_
        refine rng ?_
        refine hN1 _ _ _ ?_
        refine nxa (i + 1) (by omega) (by repeat' first | exact rfl | refine And.intro ?_ ?_ | exact True.intro | (refine eqS ?_; rw [begin_next hu ht ho, ← monTo_end (u := u) (t := t) (o := o) (k := k) (by omega)]; simp [monTo, monBegin]; done))
    · refine hN1 _ _ _ ?_
      exact (by show beginR s _; unfold beginR; rw [begin_yes hok, show s.Mons.length = i by omega]; rfl)
end Go.Proofs.YteelmdpahpggkaaGreat.T

