
import Derived.Test.YteelmdpahpggkaaGreatLbp
import Derived.Shelf.Bits.Mul64
namespace Go.Proofs.YteelmdpahpggkaaGreat.T
open Go
set_option linter.unusedVariables false
set_option linter.unusedSimpArgs false
set_option maxRecDepth 100000
set_option maxHeartbeats 8000000
theorem FunAt.still {P : Program} {f : FuncId} {vs : List Value} {t : TS} {x : Value} {w : World} (hp : freeS t = some x) (h : Calls P f vs.toArray w fun e w' => e = .returned x ∧ w' = w) : FunAt P f (vs.map V) (RP t) w := by
 intro g args k hg hsz hargs
 have ha : args = vs.toArray := by
  apply Array.ext
  ·simpa using hsz
  ·intro i h1 h2
   have h3 : i < vs.length := by simpa using h2
   have := V_inv (hargs i (V vs[i]) args[i] (by simp [h3]) (Array.getElem?_eq_getElem h1))
   simpa using this
 subst ha
 refine h.mono fun e w' ⟨he, hw⟩ => ?_
 subst he
 subst hw
 refine ⟨x, ⟨[], fun _ => t⟩, g, rfl, rfl, ⟨rfl, rfl, rfl, Nat.le_refl _, fun b hb => rfl, fun b h1 h2 => by omega, fun b hb => ?_, fun q d hq => ?_, (freeS_inv hp).2 rfl⟩⟩
 ·rw [hg] at hb
  simp only [allRo] at hb
  split at hb <;> cases hb
 ·simp at hq
theorem bits_Mul_f (n : Nat) (hn : n ≤ 24) : Fun Tryz.prog 304 [V (.int .u64 1), V (.int .u64 n)] (RP (.tup [.c (.ro (.v (.int .u64 0))), .c (.ro (.v (.int .u64 n)))])) := fun w => by
 have h := Go.Proofs.Any.bits_Mul laysMul 1 n (by omega) (by omega) w
 have e1 : ((1 * n / 18446744073709551616 : Nat) : Int) = 0 := by omega
 have e2 : ((1 * n % 18446744073709551616 : Nat) : Int) = n := by omega
 rw [e1, e2] at h
 exact FunAt.still (vs := [.int .u64 1, .int .u64 n]) rfl h
abbrev dz : D := .st [.v (.int .i64 0), .v (.int .i64 0)]
abbrev repL (s : VSlot) (n k : Nat) : List D := List.replicate k (dSlot s) ++ List.replicate (n - k) dz
theorem repL_one {s : VSlot} {n : Nat} : repL s n 1 = (List.replicate n dz).take 0 ++ [dSlot s].take 1 ++ (List.replicate n dz).drop (0 + 1) := by simp [repL]
theorem repL_next {s : VSlot} {n k m : Nat} (hk : k ≤ n) (hm : m ≤ n - k) (hm2 : m ≤ k) : repL s n (k + m) = (repL s n k).take k ++ (((repL s n k).take k).drop 0).take m ++ (repL s n k).drop (k + m) := by
 have e1 : (repL s n k).take k = List.replicate k (dSlot s) := by simp [repL]
 have e2 : (repL s n k).drop (k + m) = List.replicate (n - (k + m)) dz := by
  simp only [repL, List.drop_append, List.length_replicate]
  rw [List.drop_eq_nil_of_le (by simp), List.nil_append, List.drop_replicate]
  congr 1
  omega
 rw [e1, e2, List.drop_zero, List.take_replicate, Nat.min_eq_left hm2, List.replicate_append_replicate]
theorem repL_end {s : VSlot} {n : Nat} : repL s n n = (List.replicate n s).map dSlot := by simp [repL]
theorem slices_RepeatSlot_f (s : VSlot) (n : Nat) (hn : 1 ≤ n ∧ n ≤ 24) : Fun Tryz.prog 220 [.one (.c (.ro (.sl 2 [dSlot s]))), I n] (RL 2 ((List.replicate n s).map dSlot)) := by
 refine Fun.w 48 Tryz.func220 fun w g0 _ => ?_
 refine lenq 1 ?_ rfl
 refine cvu ?_
 refine cvu ?_
 refine callP (bits_Mul_f n (by omega)).k ?_
 refine cnd (fun hb => ?_) (fun hb => ?_)
 ·omega
 ·refine cvs ?_
  refine mkn ?_
  refine cpy 1 (repL s n 1) ?_ (by show 1 = min _ _; simp; omega) (by decide) repL_one
  refine loopA [4, 7, 30] [30] [30] (fun (k : Nat) => [.set 8 (I k)]) (fun (k : Nat) => [(30, ⟨false, [.own (.sl 2 (repL s n k))]⟩)]) (fun (k : Nat) => 1 ≤ k ∧ k ≤ n) (fun (k : Nat) => n - k) (1) (⟨Nat.le_refl _, by omega⟩) ?_
  refine ⟨hda, fun k hypk N1 hN1 => ?_⟩
  have hypk : 1 ≤ k ∧ k ≤ n := hypk
  refine len ?_
  refine cnd (fun hb2 => ?_) (fun hb2 => ?_)
  ·refine regT [7] [7] [] (.quiet 1 0 (.quiet 2 0 (.quiet 3 0 (.quiet 4 0 (.quiet 5 0 (.quiet 6 0 (.quiet 0 1 (.fork (.alt 7 (.quiet 8 0 (.quiet 9 0 .done)) .stop))))))))) ?_
   repeat' first | exact True.intro | refine And.intro ?_ ?_ | (intro _ _) | refine cutO k n ?_ (by omega) (by simp <;> omega) (by omega) (by simp <;> omega) | refine cutO 0 k ?_ (by omega) (by omega) (by omega) (by simp <;> omega) | refine cpy (min k (n - k)) (repL s n (k + min k (n - k))) ?_ (by show _ = min _ _; simp [repL] <;> omega) (by omega) (repL_next (by omega) (by omega) (by omega)) | refine rng ?_
   refine hN1 _ _ _ ?_
   refine nxa (k + min k (n - k)) (by omega)
  ·refine hN1 _ _ _ ?_
   exact (by have hkn : k = n := (by omega); subst hkn; rw [repL_end]; rfl)
end Go.Proofs.YteelmdpahpggkaaGreat.T

namespace Go.Proofs.YteelmdpahpggkaaGreat.T
open Go
set_option linter.unusedVariables false
set_option linter.unusedSimpArgs false
set_option maxRecDepth 100000
set_option maxHeartbeats 8000000
theorem impl_TableNew_f (n : Nat) (hn : 1 ≤ n ∧ n ≤ 24 := by omega) : Fun Tryz.prog 132 [I n] (RL 2 ((tableNew n).map dSlot)) := by
 refine Fun.w 8 Tryz.func132 fun w g0 _ => ?_
 refine callP (impl_NoSlot_f).k ?_
 refine callP (impl_Brought_n hn.2).k ?_
 refine callL (slices_RepeatSlot_f noSlot n hn).k ?_
 exact rfl
theorem spec_KeptNew_f  : Fun Tryz.prog 76 [I 4] (RG [.a (rKept keptNew)]) := by
 refine Fun.w 11 Tryz.func76 fun w g0 _ => ?_
 refine callL (spec_TableNew_f 4 (by omega)).k ?_
 refine lenq 4 ?_ rfl
 refine mkn ?_
 exact rfl
theorem impl_KeptNew_f  : Fun Tryz.prog 84 [I 4] (RG [.a (rKept keptNew)]) := by
 refine Fun.w 9 Tryz.func84 fun w g0 _ => ?_
 refine regT [6] [] [] (.quiet 0 0 (.quiet 3 0 (.fork (.alt 1 (.fork (.alt 2 (.fork (.alt 4 (.quiet 5 0 (.fork (.alt 6 .done .stop))) .stop)) (.alt 4 (.fork (.alt 2 (.quiet 5 0 (.fork (.alt 6 .done .stop))) .stop)) .stop))) .stop)))) ?_
 repeat' first | exact True.intro | refine And.intro ?_ ?_ | (intro _ _) | refine callP (impl_Brought_n (n := 4) (by omega)).k ?_ | refine mkn ?_ | refine callL (impl_TableNew_f 4 (by omega)).k ?_
 all_goals exact rfl
end Go.Proofs.YteelmdpahpggkaaGreat.T

namespace Go.Proofs.YteelmdpahpggkaaGreat.T
open Go
set_option linter.unusedVariables false
set_option linter.unusedSimpArgs false
set_option maxRecDepth 100000
set_option maxHeartbeats 8000000
end Go.Proofs.YteelmdpahpggkaaGreat.T

namespace Go.Proofs.YteelmdpahpggkaaGreat.T
open Go
set_option linter.unusedVariables false
set_option linter.unusedSimpArgs false
set_option maxRecDepth 100000
set_option maxHeartbeats 8000000
theorem monAt_out {h : VHost} {m : Int} (hm : ¬ (0 ≤ m ∧ m < h.Mons.length)) : monAt h m = none := at_out hm
theorem monAt_in {h : VHost} {m : Int} {x : VMon} (h0 : 0 ≤ m) (hx : h.Mons[m.toNat]? = some x) : monAt h m = some x := at_in h0 hx
theorem pageOf_off {h : VHost} {m n : Int} (hm : ¬ (0 ≤ m ∧ m < h.Mons.length) ∨ ¬ (0 ≤ n ∧ n ≤ 7)) : pageOf h m n = [0, 0, 0, 0] := by
 unfold pageOf
 by_cases h1 : 0 ≤ m ∧ m < h.Mons.length
 ·have h2 : ¬ (0 ≤ n ∧ n ≤ 7) := hm.resolve_left (fun h => h h1)
  cases monAt h m with
  | none => rfl
  | some x => simp only [if_neg h2]
 ·rw [monAt_out h1]
theorem pageOf_at {h : VHost} {m n : Int} {x : VMon} (h0 : 0 ≤ m) (hx : h.Mons[m.toNat]? = some x) (hn : 0 ≤ n ∧ n ≤ 7) : pageOf h m n = if (slotAt x.Outer n).Page ≠ -1 then pageAt h.Memory (slotAt x.Outer n).Page else pageAt x.Out n := by
 unfold pageOf
 rw [monAt_in h0 hx]
 simp only [if_pos hn]
theorem pageOf_in {h : VHost} {m n : Int} {x : VMon} (h0 : 0 ≤ m) (hx : h.Mons[m.toNat]? = some x) (hn : 0 ≤ n ∧ n ≤ 7) (hp : ¬ (slotAt x.Outer n).Page = -1) : pageOf h m n = pageAt h.Memory (slotAt x.Outer n).Page := by rw [pageOf_at h0 hx hn, if_pos hp]
theorem pageOf_out {h : VHost} {m n : Int} {x : VMon} (h0 : 0 ≤ m) (hx : h.Mons[m.toNat]? = some x) (hn : 0 ≤ n ∧ n ≤ 7) (hp : (slotAt x.Outer n).Page = -1) : pageOf h m n = pageAt x.Out n := by rw [pageOf_at h0 hx hn, if_neg (by simpa using hp)]
theorem left_none {h : VHost} {v : VMove} (hm : monAt h v.M = none ∨ ¬ v.Have.length = 8) : moveLeft h v = [] := by
 unfold moveLeft
 cases h1 : monAt h v.M with
 | none => rfl
 | some x => rw [h1] at hm; simp only [reduceCtorEq, false_or] at hm; simp only [if_neg hm]
theorem left_some {h : VHost} {v : VMove} {x : VMon} (hx : monAt h v.M = some x) (hv : v.Have.length = 8) : moveLeft h v = rangeF (leftAt x v) 8 := by
 unfold moveLeft
 rw [hx]
 simp only [if_pos hv]
abbrev monOr (h : VHost) (m : Int) : VMon := (monAt h m).getD noMon
theorem monOr_some {h : VHost} {m : Int} (hs : (monAt h m).isSome = true) : monAt h m = some (monOr h m) := by
 cases h1 : monAt h m with
 | none => rw [h1] at hs; cases hs
 | some x => simp [monOr, h1]
theorem left_at {x : VMon} {v : VMove} {i : Nat} {r : List Int} (hr : v.Have[i]? = some r) : leftAt x v i = (decide (r.length = 0) || x.Dirty[i]?.getD false) := by unfold leftAt; rw [hr]; rfl
theorem left_1 {x : VMon} {v : VMove} {i : Nat} {r : List Int} (hr : v.Have[i]? = some r) (h : r.length = 0) : leftAt x v i = true := by rw [left_at hr, decide_eq_true h]; rfl
theorem left_2 {x : VMon} {v : VMove} {i : Nat} {r : List Int} {d : Bool} (hr : v.Have[i]? = some r) (h : ¬ r.length = 0) (hd : x.Dirty[i]? = some d) : leftAt x v i = d := by rw [left_at hr, decide_eq_false h, hd]; rfl
theorem left_3 {x : VMon} {v : VMove} {i : Nat} {r : List Int} (hr : v.Have[i]? = some r) (h : ¬ r.length = 0) (hd : ¬ i < x.Dirty.length) : leftAt x v i = false := by rw [left_at hr, decide_eq_false h, List.getElem?_eq_none (by omega)]; rfl
theorem left_yes {x : VMon} {v : VMove} {i : Nat} (h : leftAt x v i = true) : (rangeF (leftAt x v) (i + 1)).map dInt = (rangeF (leftAt x v) i).map dInt ++ [dInt i] := by rw [rangeF_succ, h]; simp
theorem left_no {x : VMon} {v : VMove} {i : Nat} (h : leftAt x v i = false) : (rangeF (leftAt x v) (i + 1)).map dInt = (rangeF (leftAt x v) i).map dInt := by rw [rangeF_succ, h]; simp
theorem left_fin {h : VHost} {v : VMove} {i : Nat} (hi : i = 0 ∨ ((monAt h v.M).isSome = true ∧ v.Have.length = 8)) (h8 : i ≤ 8) (hx : ¬ i < 8 ∨ (monAt h v.M).isSome = false ∨ ¬ v.Have.length = 8) : moveLeft h v = rangeF (leftAt (monOr h v.M) v) i := by
 by_cases hk : (monAt h v.M).isSome = true ∧ v.Have.length = 8
 ·have : i = 8 := by
   rcases hx with hx | hx | hx
   ·omega
   ·rw [hk.1] at hx; cases hx
   ·exact absurd hk.2 hx
  subst this
  exact left_some (monOr_some hk.1) hk.2
 ·have : i = 0 := hi.resolve_right hk
  subst this
  rw [left_none]
  ·rfl
  ·rcases Decidable.em (v.Have.length = 8) with h1 | h1
   ·left
    cases h2 : monAt h v.M with
    | none => rfl
    | some x => exact absurd ⟨by rw [h2]; rfl, h1⟩ hk
   ·exact .inr h1
theorem spec_MonAt_f (h : VHost) (m : Int) [Q (SmHost h)] : Fun Tryz.prog 126 [A (rHost h), I m] (RG [.a (rMon (monOr h m)), .c (.v (.bool (monAt h m).isSome))]) := by
 refine Fun.w 20 Tryz.func126 fun w g0 hM => ?_
 have hl0 := hM.1.2.1.map
 refine len ?_
 refine rng ?_
 refine callP (spec_l01In_f _ _ _).k ?_
 refine cnd (fun hb => ?_) (fun hb => ?_)
 ·exact (by first | (rw [monOr, monAt_out (by omega)]; rfl) | (rw [monOr, monAt_in (by omega) (by assumption)]; rfl))
 ·first | refine ixm (by assumption) ?_ | refine bnd ?_ | refine bndi ?_ | refine ixkq (fun y17 hy17 qy17 ly17 => ?_) | refine ixiq (fun y17 hy17 qy17 ly17 => ?_)
  first | refine ixs ?_ | refine ixo (by assumption) ?_ | refine ixoq (fun z1 hz1 qz1 lz1 => ?_) | skip
  refine callG (spec_l21Mon_f _).k ?_
  exact (by first | (rw [monOr, monAt_out (by omega)]; rfl) | (rw [monOr, monAt_in (by omega) (by assumption)]; rfl))
theorem impl_MonAt_f (h : VHost) (m : Int) [Q (SmHost h)] : Fun Tryz.prog 131 [A (rHost h), I m] (RG [.a (rMon (monOr h m)), .c (.v (.bool (monAt h m).isSome))]) := by
 refine Fun.w 19 Tryz.func131 fun w g0 hM => ?_
 have hl0 := hM.1.2.1.map
 refine len ?_
 refine callP (impl_has_f _ _).k ?_
 refine cnd (fun hb => ?_) (fun hb => ?_)
 ·exact (by first | (rw [monOr, monAt_out (by omega)]; rfl) | (rw [monOr, monAt_in (by omega) (by assumption)]; rfl))
 ·first | refine ixm (by assumption) ?_ | refine bnd ?_ | refine bndi ?_ | refine ixkq (fun y16 hy16 qy16 ly16 => ?_) | refine ixiq (fun y16 hy16 qy16 ly16 => ?_)
  first | refine ixs ?_ | refine ixo (by assumption) ?_ | refine ixoq (fun z1 hz1 qz1 lz1 => ?_) | skip
  refine callG (impl_copyMon_f _).k ?_
  exact (by first | (rw [monOr, monAt_out (by omega)]; rfl) | (rw [monOr, monAt_in (by omega) (by assumption)]; rfl))
theorem spec_PageOf_f (h : VHost) (m : Int) (n : Int) [Q (SmHost h)] : Fun Tryz.prog 129 [A (rHost h), I m, I n] (RL 1 ((pageOf h m n).map dInt)) := by
 refine Fun.w 43 Tryz.func129 fun w g0 hM => ?_
 have hl0 := hM.1.2.1.map
 refine len ?_
 refine rng ?_
 refine callP (spec_l01In_f _ _ _).k ?_
 refine cnd (fun hg7 => ?_) (fun hg7 => ?_)
 ·refine mkw 4 ?_
  exact (by first | (rw [pageOf_off (by first | (left; omega) | (right; omega))]; rfl) | (rw [pageOf_in (by omega) (by assumption) (by omega) (by assumption)]; rfl) | (rw [pageOf_out (by omega) (by assumption) (by omega) (by omega)]; rfl))
 ·refine callP (spec_l01In_f _ _ _).k ?_
  refine cnd (fun hb => ?_) (fun hb => ?_)
  ·refine mkw 4 ?_
   exact (by first | (rw [pageOf_off (by first | (left; omega) | (right; omega))]; rfl) | (rw [pageOf_in (by omega) (by assumption) (by omega) (by assumption)]; rfl) | (rw [pageOf_out (by omega) (by assumption) (by omega) (by omega)]; rfl))
  ·first | refine ixm (by assumption) ?_ | refine bnd ?_ | refine bndi ?_ | refine ixkq (fun y25 hy25 qy25 ly25 => ?_) | refine ixiq (fun y25 hy25 qy25 ly25 => ?_)
   first | refine ixs ?_ | refine ixo (by assumption) ?_ | refine ixoq (fun z1 hz1 qz1 lz1 => ?_) | skip
   refine callP (spec_SlotAt_f _ _).k ?_
   refine cnd (fun hb2 => ?_) (fun hb2 => ?_)
   ·refine callL (spec_PageAt_f _ _).k ?_
    exact (by first | (rw [pageOf_off (by first | (left; omega) | (right; omega))]; rfl) | (rw [pageOf_in (by omega) (by assumption) (by omega) (by assumption)]; rfl) | (rw [pageOf_out (by omega) (by assumption) (by omega) (by omega)]; rfl))
   ·refine callL (spec_PageAt_f _ _).k ?_
    exact (by first | (rw [pageOf_off (by first | (left; omega) | (right; omega))]; rfl) | (rw [pageOf_in (by omega) (by assumption) (by omega) (by assumption)]; rfl) | (rw [pageOf_out (by omega) (by assumption) (by omega) (by omega)]; rfl))
theorem impl_PageOf_f (h : VHost) (m : Int) (n : Int) [Q (SmHost h)] : Fun Tryz.prog 134 [A (rHost h), I m, I n] (RL 1 ((pageOf h m n).map dInt)) := by
 refine Fun.w 42 Tryz.func134 fun w g0 hM => ?_
 have hl0 := hM.1.2.1.map
 refine len ?_
 refine callP (impl_has_f _ _).k ?_
 refine cnd (fun hg6 => ?_) (fun hg6 => ?_)
 ·refine mkw 4 ?_
  exact (by first | (rw [pageOf_off (by first | (left; omega) | (right; omega))]; rfl) | (rw [pageOf_in (by omega) (by assumption) (by omega) (by assumption)]; rfl) | (rw [pageOf_out (by omega) (by assumption) (by omega) (by omega)]; rfl))
 ·refine callP (impl_has_f _ _).k ?_
  refine cnd (fun hb => ?_) (fun hb => ?_)
  ·refine mkw 4 ?_
   exact (by first | (rw [pageOf_off (by first | (left; omega) | (right; omega))]; rfl) | (rw [pageOf_in (by omega) (by assumption) (by omega) (by assumption)]; rfl) | (rw [pageOf_out (by omega) (by assumption) (by omega) (by omega)]; rfl))
  ·first | refine ixm (by assumption) ?_ | refine bnd ?_ | refine bndi ?_ | refine ixkq (fun y24 hy24 qy24 ly24 => ?_) | refine ixiq (fun y24 hy24 qy24 ly24 => ?_)
   first | refine ixs ?_ | refine ixo (by assumption) ?_ | refine ixoq (fun z1 hz1 qz1 lz1 => ?_) | skip
   refine callP (impl_SlotAt_f _ _).k ?_
   refine cnd (fun hb2 => ?_) (fun hb2 => ?_)
   ·refine callL (impl_PageAt_f _ _).k ?_
    exact (by first | (rw [pageOf_off (by first | (left; omega) | (right; omega))]; rfl) | (rw [pageOf_in (by omega) (by assumption) (by omega) (by assumption)]; rfl) | (rw [pageOf_out (by omega) (by assumption) (by omega) (by omega)]; rfl))
   ·refine callL (impl_PageAt_f _ _).k ?_
    exact (by first | (rw [pageOf_off (by first | (left; omega) | (right; omega))]; rfl) | (rw [pageOf_in (by omega) (by assumption) (by omega) (by assumption)]; rfl) | (rw [pageOf_out (by omega) (by assumption) (by omega) (by omega)]; rfl))
theorem impl_moves_f (h : VHost) (v : VMove) : Fun Tryz.prog 130 [A (rHost h), A (rMove v)] (RV (.bool (moves h v))) := by
 refine Fun.w 21 Tryz.func130 fun w g0 hM => ?_
 have hl0 := hM.1.2.1.map
 have hl1 := hM.2.1.2.1.map
 refine callP (impl_HostOk_f _).k ?_
 refine cnd (fun hg2 => ?_) (fun hg2 => ?_)
 ·refine len ?_
  refine callP (impl_has_f _ _).k ?_
  refine cnd (fun hg10 => ?_) (fun hg10 => ?_)
  ·refine len ?_
   exact resV (by first | (simp [moves, hasMon, *]; done) | (refine congrArg Value.bool ?_; rw [Bool.eq_iff_iff]; simp [moves, hasMon, *]; omega) | (refine congrArg Value.bool ?_; symm; rw [Bool.eq_false_iff]; intro e; simp only [moves, hasMon, Bool.and_eq_true, decide_eq_true_eq] at e; omega))
  ·exact resV (by first | (simp [moves, hasMon, *]; done) | (refine congrArg Value.bool ?_; rw [Bool.eq_iff_iff]; simp [moves, hasMon, *]; omega) | (refine congrArg Value.bool ?_; symm; rw [Bool.eq_false_iff]; intro e; simp only [moves, hasMon, Bool.and_eq_true, decide_eq_true_eq] at e; omega))
 ·exact resV (by first | (simp [moves, hasMon, *]; done) | (refine congrArg Value.bool ?_; rw [Bool.eq_iff_iff]; simp [moves, hasMon, *]; omega) | (refine congrArg Value.bool ?_; symm; rw [Bool.eq_false_iff]; intro e; simp only [moves, hasMon, Bool.and_eq_true, decide_eq_true_eq] at e; omega))
theorem impl_MoveLeft_f (h : VHost) (v : VMove) [Q (SmHost h)] [Q (SmMove v)] : Fun Tryz.prog 133 [A (rHost h), A (rMove v)] (RL 1 ((moveLeft h v).map dInt)) := by
 refine Fun.w 57 Tryz.func133 fun w g0 hM => ?_
 have hl0 := hM.1.2.1.map
 have hl1 := hM.2.1.2.1.map
 refine len ?_
 refine callP (impl_has_f _ _).k ?_
 refine cnd (fun hg7 => ?_) (fun hg7 => ?_)
 ·exact (by rw [left_none (by first | (left; exact monAt_out (by omega)) | (right; omega))]; rfl)
 ·refine len ?_
  refine cnd (fun hb => ?_) (fun hb => ?_)
  ·exact (by rw [left_none (by first | (left; exact monAt_out (by omega)) | (right; omega))]; rfl)
  ·obtain ⟨x, hx⟩ : ∃ x, h.Mons[v.M.toNat]? = some x := ⟨_, List.getElem?_eq_getElem (by omega)⟩
   have hma := monAt_in (h := h) (m := v.M) (by omega) hx
   have qx : Q (SmMon x) := ⟨ElS.h x (List.mem_of_getElem? hx)⟩
   refine ixm hx ?_
   first | refine ixs ?_ | refine ixo (by assumption) ?_ | refine ixoq (fun z1 hz1 qz1 lz1 => ?_) | skip
   refine loopA [3, 4, 5, 6] [5] [5] (fun (i : Nat) => [.set 7 (I i)]) (fun (i : Nat) => [(5, ⟨false, [.own (.sl 1 ((rangeF (leftAt x v) i).map dInt))]⟩)]) (fun (i : Nat) => i ≤ 8) (fun (i : Nat) => 8 - i) (0) (Nat.zero_le _) ?_
   refine ⟨hda, fun i hyp N1 hN1 => ?_⟩
   have hyp : i ≤ 8 := hyp
   have hr0 := @rangeF_len (leftAt x v) i
   refine cnd (fun hb2 => ?_) (fun hb2 => ?_)
   ·obtain ⟨r, hr⟩ : ∃ r, v.Have[i]? = some r := ⟨_, List.getElem?_eq_getElem (by omega)⟩
    refine ixm hr ?_
    first | refine ixs ?_ | refine ixo (by assumption) ?_ | refine ixoq (fun z2 hz2 qz2 lz2 => ?_) | skip
    first | refine ixs ?_ | refine ixo (by assumption) ?_ | refine ixoq (fun z3 hz3 qz3 lz3 => ?_) | skip
    refine len ?_
    refine cnd (fun hg7 => ?_) (fun hg7 => ?_)
    ·first | refine appPq ?_ | refine appP ?_
     refine rng ?_
     refine hN1 _ _ _ ?_
     refine nxa (i + 1) (by omega) (by repeat' first | exact rfl | refine And.intro ?_ ?_ | exact True.intro | (refine eqS ?_; rw [left_yes (left_1 hr (by omega))]; done) | (refine eqS ?_; rw [left_yes (by rw [left_2 hr (by omega) (by assumption)]; assumption)]; done) | (refine eqS ?_; rw [left_no (left_3 hr (by omega) (by omega))]; done) | (refine eqS ?_; rw [left_no (by rw [left_2 hr (by omega) (by assumption)]; assumption)]; done) | (refine eqS ?_; (simp; done)))
    ·first | refine ixs ?_ | refine ixo (by assumption) ?_ | refine ixoq (fun z4 hz4 qz4 lz4 => ?_) | skip
     refine len ?_
     refine callP (impl_has_f _ _).k ?_
     refine cnd (fun hg12 => ?_) (fun hg12 => ?_)
     ·obtain ⟨d, hd⟩ : ∃ d, x.Dirty[i]? = some d := ⟨_, List.getElem?_eq_getElem (by omega)⟩
      first | refine ixs ?_ | refine ixo (by assumption) ?_ | refine ixoq (fun z5 hz5 qz5 lz5 => ?_) | skip
      refine ixm hd ?_
      first | refine ixs ?_ | refine ixo (by assumption) ?_ | refine ixoq (fun z6 hz6 qz6 lz6 => ?_) | skip
      first | refine ixs ?_ | refine ixo (by assumption) ?_ | refine ixoq (fun z7 hz7 qz7 lz7 => ?_) | skip
      refine cnd (fun hb3 => ?_) (fun hb3 => ?_)
      ·first | refine appPq ?_ | refine appP ?_
       refine rng ?_
       refine hN1 _ _ _ ?_
       refine nxa (i + 1) (by omega) (by repeat' first | exact rfl | refine And.intro ?_ ?_ | exact True.intro | (refine eqS ?_; rw [left_yes (left_1 hr (by omega))]; done) | (refine eqS ?_; rw [left_yes (by rw [left_2 hr (by omega) (by assumption)]; assumption)]; done) | (refine eqS ?_; rw [left_no (left_3 hr (by omega) (by omega))]; done) | (refine eqS ?_; rw [left_no (by rw [left_2 hr (by omega) (by assumption)]; assumption)]; done) | (refine eqS ?_; (simp; done)))
      ·refine rng ?_
       refine hN1 _ _ _ ?_
       refine nxa (i + 1) (by omega) (by repeat' first | exact rfl | refine And.intro ?_ ?_ | exact True.intro | (refine eqS ?_; rw [left_yes (left_1 hr (by omega))]; done) | (refine eqS ?_; rw [left_yes (by rw [left_2 hr (by omega) (by assumption)]; assumption)]; done) | (refine eqS ?_; rw [left_no (left_3 hr (by omega) (by omega))]; done) | (refine eqS ?_; rw [left_no (by rw [left_2 hr (by omega) (by assumption)]; assumption)]; done) | (refine eqS ?_; (simp; done)))
     ·refine rng ?_
      refine hN1 _ _ _ ?_
      refine nxa (i + 1) (by omega) (by repeat' first | exact rfl | refine And.intro ?_ ?_ | exact True.intro | (refine eqS ?_; rw [left_yes (left_1 hr (by omega))]; done) | (refine eqS ?_; rw [left_yes (by rw [left_2 hr (by omega) (by assumption)]; assumption)]; done) | (refine eqS ?_; rw [left_no (left_3 hr (by omega) (by omega))]; done) | (refine eqS ?_; rw [left_no (by rw [left_2 hr (by omega) (by assumption)]; assumption)]; done) | (refine eqS ?_; (simp; done)))
   ·refine hN1 _ _ _ ?_
    exact (by have h8 : i = 8 := (by omega); subst h8; rw [left_some hma (by omega)]; rfl)
theorem spec_MoveLeft_f (h : VHost) (v : VMove) [Q (SmHost h)] [Q (SmMove v)] : Fun Tryz.prog 128 [A (rHost h), A (rMove v)] (RL 1 ((moveLeft h v).map dInt)) := by
 refine Fun.w 56 Tryz.func128 fun w g0 hM => ?_
 have hl0 := hM.1.2.1.map
 have hl1 := hM.2.1.2.1.map
 refine callG (spec_MonAt_f h v.M).k ?_
 refine loopA [3, 4, 5, 6, 7] [5] [5] (fun (i : Nat) => [.set 8 (I i)]) (fun (i : Nat) => [(5, ⟨false, [.own (.sl 1 ((rangeF (leftAt (monOr h v.M) v) i).map dInt))]⟩)]) (fun (i : Nat) => i ≤ 8 ∧ (i = 0 ∨ ((monAt h v.M).isSome = true ∧ v.Have.length = 8))) (fun (i : Nat) => 8 - i) (0) (⟨Nat.zero_le _, .inl rfl⟩) ?_
 refine ⟨hda, fun i hyp N1 hN1 => ?_⟩
 have hyp : i ≤ 8 ∧ (i = 0 ∨ ((monAt h v.M).isSome = true ∧ v.Have.length = 8)) := hyp
 have hr0 := @rangeF_len (leftAt (monOr h v.M) v) i
 have hyp1 := hyp.1
 refine cnd (fun hg2 => ?_) (fun hg2 => ?_)
 ·refine cnd (fun hg5 => ?_) (fun hg5 => ?_)
  ·refine len ?_
   refine cnd (fun hb => ?_) (fun hb => ?_)
   ·obtain ⟨r, hr⟩ : ∃ r, v.Have[i]? = some r := ⟨_, List.getElem?_eq_getElem (by omega)⟩
    refine ixm hr ?_
    first | refine ixs ?_ | refine ixo (by assumption) ?_ | refine ixoq (fun z1 hz1 qz1 lz1 => ?_) | skip
    first | refine ixs ?_ | refine ixo (by assumption) ?_ | refine ixoq (fun z2 hz2 qz2 lz2 => ?_) | skip
    refine len ?_
    refine cnd (fun hg7 => ?_) (fun hg7 => ?_)
    ·first | refine appPq ?_ | refine appP ?_
     refine rng ?_
     refine hN1 _ _ _ ?_
     refine nxa (i + 1) (⟨by omega, .inr ⟨by assumption, by omega⟩⟩) (by repeat' first | exact rfl | refine And.intro ?_ ?_ | exact True.intro | (refine eqS ?_; rw [left_yes (left_1 hr (by omega))]; done) | (refine eqS ?_; rw [left_yes (by rw [left_2 hr (by omega) (by assumption)]; assumption)]; done) | (refine eqS ?_; rw [left_no (left_3 hr (by omega) (by omega))]; done) | (refine eqS ?_; rw [left_no (by rw [left_2 hr (by omega) (by assumption)]; assumption)]; done) | (refine eqS ?_; (simp; done)))
    ·refine len ?_
     refine cnd (fun hg13 => ?_) (fun hg13 => ?_)
     ·obtain ⟨d, hd⟩ : ∃ d, (monOr h v.M).Dirty[i]? = some d := ⟨_, List.getElem?_eq_getElem (by omega)⟩
      first | refine ixm (by assumption) ?_ | refine bnd ?_ | refine bndi ?_ | refine ixkq (fun y47 hy47 qy47 ly47 => ?_) | refine ixiq (fun y47 hy47 qy47 ly47 => ?_)
      first | refine ixs ?_ | refine ixo (by assumption) ?_ | refine ixoq (fun z3 hz3 qz3 lz3 => ?_) | skip
      refine cnd (fun hb2 => ?_) (fun hb2 => ?_)
      ·first | refine appPq ?_ | refine appP ?_
       refine rng ?_
       refine hN1 _ _ _ ?_
       refine nxa (i + 1) (⟨by omega, .inr ⟨by assumption, by omega⟩⟩) (by repeat' first | exact rfl | refine And.intro ?_ ?_ | exact True.intro | (refine eqS ?_; rw [left_yes (left_1 hr (by omega))]; done) | (refine eqS ?_; rw [left_yes (by rw [left_2 hr (by omega) (by assumption)]; assumption)]; done) | (refine eqS ?_; rw [left_no (left_3 hr (by omega) (by omega))]; done) | (refine eqS ?_; rw [left_no (by rw [left_2 hr (by omega) (by assumption)]; assumption)]; done) | (refine eqS ?_; (simp; done)))
      ·refine rng ?_
       refine hN1 _ _ _ ?_
       refine nxa (i + 1) (⟨by omega, .inr ⟨by assumption, by omega⟩⟩) (by repeat' first | exact rfl | refine And.intro ?_ ?_ | exact True.intro | (refine eqS ?_; rw [left_yes (left_1 hr (by omega))]; done) | (refine eqS ?_; rw [left_yes (by rw [left_2 hr (by omega) (by assumption)]; assumption)]; done) | (refine eqS ?_; rw [left_no (left_3 hr (by omega) (by omega))]; done) | (refine eqS ?_; rw [left_no (by rw [left_2 hr (by omega) (by assumption)]; assumption)]; done) | (refine eqS ?_; (simp; done)))
     ·refine rng ?_
      refine hN1 _ _ _ ?_
      refine nxa (i + 1) (⟨by omega, .inr ⟨by assumption, by omega⟩⟩) (by repeat' first | exact rfl | refine And.intro ?_ ?_ | exact True.intro | (refine eqS ?_; rw [left_yes (left_1 hr (by omega))]; done) | (refine eqS ?_; rw [left_yes (by rw [left_2 hr (by omega) (by assumption)]; assumption)]; done) | (refine eqS ?_; rw [left_no (left_3 hr (by omega) (by omega))]; done) | (refine eqS ?_; rw [left_no (by rw [left_2 hr (by omega) (by assumption)]; assumption)]; done) | (refine eqS ?_; (simp; done)))
   ·refine hN1 _ _ _ ?_
    exact (by rw [left_fin hyp.2 hyp.1 (by first | (left; omega) | (right; left; assumption) | (right; right; omega))]; rfl)
  ·refine hN1 _ _ _ ?_
   exact (by rw [left_fin hyp.2 hyp.1 (by first | (left; omega) | (right; left; assumption) | (right; right; omega))]; rfl)
 ·refine hN1 _ _ _ ?_
  exact (by rw [left_fin hyp.2 hyp.1 (by first | (left; omega) | (right; left; assumption) | (right; right; omega))]; rfl)
end Go.Proofs.YteelmdpahpggkaaGreat.T

