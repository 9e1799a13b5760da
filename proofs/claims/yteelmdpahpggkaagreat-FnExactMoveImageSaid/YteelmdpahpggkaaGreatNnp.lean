/- Tables: slices.Repeat and what is made of it, the program. PRINTED by gen3.py. No condition. -/
import Derived.Test.YteelmdpahpggkaaGreatNlp
import Derived.Test.YteelmdpahpggkaaGreatLbp
import Derived.Shelf.Bits.Mul64
namespace Go.Proofs.YteelmdpahpggkaaGreat.T
open Go
set_option linter.unusedVariables false
set_option linter.unusedSimpArgs false
set_option maxRecDepth 100000
set_option maxHeartbeats 8000000

theorem FunAt.still {P : Program} {f : FuncId} {vs : List Value} {t : TS} {x : Value} {w : World} (hp : freeS t = some x) (h : Calls P f vs.toArray w fun e w' => e = .returned x ∧ w' = w) : FunAt P f (vs.map V) (RP t) w := by
  intro g args k hg hsz hargs
  have ha : args = vs.toArray := by
    apply Array.ext
    · simpa using hsz
    · intro i h1 h2
      have h3 : i < vs.length := by simpa using h2
      have := V_inv (hargs i (V vs[i]) args[i] (by simp [h3]) (Array.getElem?_eq_getElem h1))
      simpa using this
  subst ha
  refine h.mono fun e w' ⟨he, hw⟩ => ?_
  subst he
  subst hw
  refine ⟨x, ⟨[], fun _ => t⟩, g, rfl, rfl, ⟨rfl, rfl, rfl, Nat.le_refl _, fun b hb => rfl, fun b h1 h2 => by omega, fun b hb => ?_, fun q d hq => ?_, (freeS_inv hp).2 rfl⟩⟩
  · rw [hg] at hb
    simp only [allRo] at hb
    split at hb <;> cases hb
  · simp at hq
theorem bits_Mul_f (n : Nat) (hn : n ≤ 24) : Fun Tryz.prog 304 [V (.int .u64 1), V (.int .u64 n)] (RP (.tup [.c (.ro (.v (.int .u64 0))), .c (.ro (.v (.int .u64 n)))])) := fun w => by
  have h := Go.Proofs.Any.bits_Mul laysMul 1 n (by omega) (by omega) w
  have e1 : ((1 * n / 18446744073709551616 : Nat) : Int) = 0 := by omega
  have e2 : ((1 * n % 18446744073709551616 : Nat) : Int) = n := by omega
  rw [e1, e2] at h
  exact FunAt.still (vs := [.int .u64 1, .int .u64 n]) rfl h
abbrev dz : D := .st [.v (.int .i64 0), .v (.int .i64 0)]
/-- a list that is filled with one element up to k -/
abbrev repL (s : VSlot) (n k : Nat) : List D := List.replicate k (dSlot s) ++ List.replicate (n - k) dz
theorem repL_one {s : VSlot} {n : Nat} : repL s n 1 = (List.replicate n dz).take 0 ++ [dSlot s].take 1 ++ (List.replicate n dz).drop (0 + 1) := by simp [repL]
theorem repL_next {s : VSlot} {n k m : Nat} (hk : k ≤ n) (hm : m ≤ n - k) (hm2 : m ≤ k) : repL s n (k + m) = (repL s n k).take k ++ (((repL s n k).take k).drop 0).take m ++ (repL s n k).drop (k + m) := by
  have e1 : (repL s n k).take k = List.replicate k (dSlot s) := by simp [repL]
  have e2 : (repL s n k).drop (k + m) = List.replicate (n - (k + m)) dz := by
    simp only [repL, List.drop_append, List.length_replicate]
    rw [List.drop_eq_nil_of_le (by simp), List.nil_append, List.drop_replicate]
    congr 1
    omega
  rw [e1, e2, List.drop_zero, List.take_replicate, Nat.min_eq_left hm2, List.replicate_append_replicate]
theorem repL_end {s : VSlot} {n : Nat} : repL s n n = (List.replicate n s).map dSlot := by simp [repL]
theorem slices_RepeatSlot_f (s : VSlot) (n : Nat) (hn : 1 ≤ n ∧ n ≤ 24) : Fun Tryz.prog 220 [.one (.c (.ro (.sl 2 [dSlot s]))), I n] (RL 2 ((List.replicate n s).map dSlot)) := by
  refine Fun.w 48 Tryz.func220 fun w g0 _ => ?_
  refine lenq 1 ?_ rfl
  refine cvu ?_
  refine cvu ?_
  refine callP (bits_Mul_f n (by omega)).k ?_
  refine cnd (fun hb => ?_) (fun hb => ?_)
  · omega
  · refine cvs ?_
    refine mkn ?_
    refine cpy 1 (repL s n 1) ?_ (by show 1 = min _ _; simp; omega) (by decide) repL_one
    refine loopA [4, 7, 30] [30] [30] (fun (k : Nat) => [.set 8 (I k)]) (fun (k : Nat) => [(30, ⟨false, [.own (.sl 2 (repL s n k))]⟩)]) (fun (k : Nat) => 1 ≤ k ∧ k ≤ n) (fun (k : Nat) => n - k) (1) (⟨Nat.le_refl _, by omega⟩) ?_
    refine ⟨hda, fun k hypk N1 hN1 => ?_⟩
    have hypk : 1 ≤ k ∧ k ≤ n := hypk
    refine len ?_
    refine cnd (fun hb2 => ?_) (fun hb2 => ?_)
    · refine regT [7] [7] [] (.quiet 1 0 (.quiet 2 0 (.quiet 3 0 (.quiet 4 0 (.quiet 5 0 (.quiet 6 0 (.quiet 0 1 (.fork (.alt 7 (.quiet 8 0 (.quiet 9 0 .done)) .stop))))))))) ?_
      repeat' first | exact True.intro | refine And.intro ?_ ?_ | (intro _ _) | refine cutO k n ?_ (by omega) (by simp <;> omega) (by omega) (by simp <;> omega) | refine cutO 0 k ?_ (by omega) (by omega) (by omega) (by simp <;> omega) | refine cpy (min k (n - k)) (repL s n (k + min k (n - k))) ?_ (by show _ = min _ _; simp [repL] <;> omega) (by omega) (repL_next (by omega) (by omega) (by omega)) | refine rng ?_
      refine hN1 _ _ _ ?_
      refine nxa (k + min k (n - k)) (by omega)
    · refine hN1 _ _ _ ?_
      exact (by have hkn : k = n := (by omega); subst hkn; rw [repL_end]; rfl)
end Go.Proofs.YteelmdpahpggkaaGreat.T

