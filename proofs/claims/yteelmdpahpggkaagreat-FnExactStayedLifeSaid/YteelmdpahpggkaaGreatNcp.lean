
import Derived.Test.YteelmdpahpggkaaGreatNbp
namespace Go.Proofs.YteelmdpahpggkaaGreat.T
open Go
set_option linter.unusedVariables false
set_option linter.unusedSimpArgs false
set_option maxRecDepth 100000
set_option maxHeartbeats 1000000
theorem withCell_no {m : List (List Int)} {p c v : Int} (h : hasCell m p c = false ∨ ¬ (0 ≤ v ∧ v ≤ 99)) : withCell m p c v = m := by
 unfold withCell
 unfold hasCell at h
 split
 ·rfl
 ·rename_i r hr
  rw [hr] at h
  split
  ·rename_i hv
   have hc : ¬ (0 ≤ c ∧ c < r.length) := by
    rcases h with h | h
    ·exact of_decide_eq_false h
    ·exact absurd (of_decide_eq_true hv) h
   rw [put_out hc]
   unfold at? at hr
   split at hr
   ·rename_i hp
    rw [put_in hp]
    obtain ⟨h1, h2⟩ := List.getElem?_eq_some_iff.1 hr
    rw [← h2, List.set_getElem_self]
   ·cases hr
  ·rfl
theorem withCell_yes {m : List (List Int)} {p c v : Int} {r : List Int} (h : 0 ≤ p) (hr : m[p.toNat]? = some r) (hc : 0 ≤ c) (hv : 0 ≤ v ∧ v ≤ 99) : withCell m p c v = m.set p.toNat (r.set c.toNat v) := by
 unfold withCell
 rw [at_in h hr]
 simp only
 rw [if_pos (decide_eq_true hv), put_in h, put_in hc]
theorem tdiv4 {a : Int} (h : a ≤ 9223372036854775807) : a.tdiv 4 ≤ 9223372036854775807 ∧ (0 ≤ a → 0 ≤ a.tdiv 4) := by
 by_cases h0 : 0 ≤ a
 ·rw [Int.tdiv_eq_ediv_of_nonneg h0]
  omega
 ·have h1 : a.tdiv 4 = -((-a).tdiv 4) := by rw [Int.neg_tdiv]; omega
  rw [h1, Int.tdiv_eq_ediv_of_nonneg (by omega)]
  omega
theorem brought_in {n : Nat} (h : n ≤ 24) : brought n 0 24 = n := by unfold brought; rw [if_neg (by omega), if_neg (by omega)]
theorem enough_rng {r n : Int} (h : enough r n = true) : 0 ≤ n ∧ n ≤ 3 ∧ 0 ≤ r ∧ r ≤ 3 := by
 simp only [enough, Bool.and_eq_true, decide_eq_true_eq] at h
 omega
theorem spec_WithSlot_f (t : List VSlot) (n : Int) (s : VSlot) [Q (SmSlotS t)] : Fun Tryz.prog 329 [L 2 (t.map dSlot), I n, A (rSlot s)] (RL 2 ((put t n s).map dSlot)) := by
 refine Fun.w 21 Tryz.func329 fun w g0 hM => ?_
 have hl0 := hM.1.map
 first | refine appPq ?_ | refine appP ?_
 refine len ?_
 refine rng ?_
 refine callP (spec_l01In_f _ _ _).k ?_
 refine cnd (fun hb => ?_) (fun hb => ?_)
 ·first | refine ixm (by assumption) ?_ | refine bnd ?_ | refine bndi ?_ | refine ixkq (fun y19 hy19 qy19 ly19 => ?_) | refine ixiq (fun y19 hy19 qy19 ly19 => ?_)
  first | refine ixs ?_ | refine ixo (by assumption) ?_ | refine ixoq (fun z1 hz1 qz1 lz1 => ?_) | skip
  exact (by first | (rw [put_in (by omega), List.map_set]; rfl) | (rw [put_out (by omega)]; rfl))
 ·exact (by first | (rw [put_in (by omega), List.map_set]; rfl) | (rw [put_out (by omega)]; rfl))
theorem impl_WithSlot_f (t : List VSlot) (n : Int) (s : VSlot) [Q (SmSlotS t)] : Fun Tryz.prog 429 [L 2 (t.map dSlot), I n, A (rSlot s)] (RL 2 ((put t n s).map dSlot)) := by
 refine Fun.w 19 Tryz.func429 fun w g0 hM => ?_
 have hl0 := hM.1.map
 refine callL (impl_copyTable_f _).k ?_
 refine len ?_
 refine callP (impl_has_f _ _).k ?_
 refine cnd (fun hb => ?_) (fun hb => ?_)
 ·first | refine ixm (by assumption) ?_ | refine bnd ?_ | refine bndi ?_ | refine ixkq (fun y17 hy17 qy17 ly17 => ?_) | refine ixiq (fun y17 hy17 qy17 ly17 => ?_)
  first | refine ixs ?_ | refine ixo (by assumption) ?_ | refine ixoq (fun z1 hz1 qz1 lz1 => ?_) | skip
  exact (by first | (rw [put_in (by omega), List.map_set]; rfl) | (rw [put_out (by omega)]; rfl))
 ·exact (by first | (rw [put_in (by omega), List.map_set]; rfl) | (rw [put_out (by omega)]; rfl))
theorem spec_WalkInner_f (t : List VSlot) (p : Int) (n : Int) : Fun Tryz.prog 315 [L 2 (t.map dSlot), I p, I n] (RG [.c (.v (.int .i64 ((walkInner t p n).getD (-1)))), .c (.v (.bool (walkInner t p n).isSome))]) := by
 refine Fun.w 28 Tryz.func315 fun w g0 _ => ?_
 have he := @enough_rng (slotAt t p).Rights n
 refine callP (spec_SlotAt_f _ _).k ?_
 refine cnd (fun hg3 => ?_) (fun hg3 => ?_)
 ·exact (by first | (rw [show walkInner t p n = none from if_pos (by first | (simp [*]; done) | (simp_all; done) | (simp_all; omega))]; rfl) | (rw [show walkInner t p n = some _ from if_neg (by first | (simp [*]; done) | (simp_all; done) | (simp_all; omega))]; rfl))
 ·refine callP (spec_Enough_f _ _).k ?_
  refine cnd (fun hg10 => ?_) (fun hg10 => ?_)
  ·exact (by first | (rw [show walkInner t p n = none from if_pos (by first | (simp [*]; done) | (simp_all; done) | (simp_all; omega))]; rfl) | (rw [show walkInner t p n = some _ from if_neg (by first | (simp [*]; done) | (simp_all; done) | (simp_all; omega))]; rfl))
  ·refine cnd (fun hb => ?_) (fun hb => ?_)
   ·exact (by first | (rw [show walkInner t p n = none from if_pos (by first | (simp [*]; done) | (simp_all; done) | (simp_all; omega))]; rfl) | (rw [show walkInner t p n = some _ from if_neg (by first | (simp [*]; done) | (simp_all; done) | (simp_all; omega))]; rfl))
   ·exact (by first | (rw [show walkInner t p n = none from if_pos (by first | (simp [*]; done) | (simp_all; done) | (simp_all; omega))]; rfl) | (rw [show walkInner t p n = some _ from if_neg (by first | (simp [*]; done) | (simp_all; done) | (simp_all; omega))]; rfl))
theorem impl_WalkInner_f (t : List VSlot) (p : Int) (n : Int) : Fun Tryz.prog 419 [L 2 (t.map dSlot), I p, I n] (RG [.c (.v (.int .i64 ((walkInner t p n).getD (-1)))), .c (.v (.bool (walkInner t p n).isSome))]) := by
 refine Fun.w 29 Tryz.func419 fun w g0 _ => ?_
 have he := @enough_rng (slotAt t p).Rights n
 refine callP (impl_SlotAt_f _ _).k ?_
 refine cnd (fun hg3 => ?_) (fun hg3 => ?_)
 ·exact (by first | (rw [show walkInner t p n = none from if_pos (by first | (simp [*]; done) | (simp_all; done) | (simp_all; omega))]; rfl) | (rw [show walkInner t p n = some _ from if_neg (by first | (simp [*]; done) | (simp_all; done) | (simp_all; omega))]; rfl))
 ·refine callP (impl_Enough_f _ _).k ?_
  refine cnd (fun hg10 => ?_) (fun hg10 => ?_)
  ·exact (by first | (rw [show walkInner t p n = none from if_pos (by first | (simp [*]; done) | (simp_all; done) | (simp_all; omega))]; rfl) | (rw [show walkInner t p n = some _ from if_neg (by first | (simp [*]; done) | (simp_all; done) | (simp_all; omega))]; rfl))
  ·refine callP (impl_within_f _ _ _).k ?_
   refine cnd (fun hb => ?_) (fun hb => ?_)
   ·exact (by first | (rw [show walkInner t p n = none from if_pos (by first | (simp [*]; done) | (simp_all; done) | (simp_all; omega))]; rfl) | (rw [show walkInner t p n = some _ from if_neg (by first | (simp [*]; done) | (simp_all; done) | (simp_all; omega))]; rfl))
   ·exact (by first | (rw [show walkInner t p n = none from if_pos (by first | (simp [*]; done) | (simp_all; done) | (simp_all; omega))]; rfl) | (rw [show walkInner t p n = some _ from if_neg (by first | (simp [*]; done) | (simp_all; done) | (simp_all; omega))]; rfl))
theorem spec_AddrPage_f (a : Int) [ha0 : Q (a ≤ 9223372036854775807)] : Fun Tryz.prog 316 [I a] (RV (.int .i64 (addrPage a))) := by
 refine Fun.w 7 Tryz.func316 fun w g0 _ => ?_
 have h4 : a.tdiv 4 ≤ 9223372036854775807 ∧ (0 ≤ a → 0 ≤ a.tdiv 4) := tdiv4 ha0.h
 refine cnd (fun hb => ?_) (fun hb => ?_)
 ·exact resV (by first | (simp_all [addrPage]; done) | (simp_all [addrPage]; omega) | (simp_all [addrPage] <;> (try intros) <;> omega) | (refine congrArg Value.bool ?_; rw [Bool.eq_iff_iff]; simp [addrPage]; omega) | (simp_all [addrPage] <;> rfl))
 ·refine nz (rng ?_)
  exact resV (by first | (simp_all [addrPage]; done) | (simp_all [addrPage]; omega) | (simp_all [addrPage] <;> (try intros) <;> omega) | (refine congrArg Value.bool ?_; rw [Bool.eq_iff_iff]; simp [addrPage]; omega) | (simp_all [addrPage] <;> rfl))
theorem impl_AddrPage_f (a : Int) [ha0 : Q (a ≤ 9223372036854775807)] : Fun Tryz.prog 366 [I a] (RV (.int .i64 (addrPage a))) := by
 refine Fun.w 7 Tryz.func366 fun w g0 _ => ?_
 have h4 : a.tdiv 4 ≤ 9223372036854775807 ∧ (0 ≤ a → 0 ≤ a.tdiv 4) := tdiv4 ha0.h
 refine cnd (fun hb => ?_) (fun hb => ?_)
 ·exact resV (by first | (simp_all [addrPage]; done) | (simp_all [addrPage]; omega) | (simp_all [addrPage] <;> (try intros) <;> omega) | (refine congrArg Value.bool ?_; rw [Bool.eq_iff_iff]; simp [addrPage]; omega) | (simp_all [addrPage] <;> rfl))
 ·refine nz (rng ?_)
  exact resV (by first | (simp_all [addrPage]; done) | (simp_all [addrPage]; omega) | (simp_all [addrPage] <;> (try intros) <;> omega) | (refine congrArg Value.bool ?_; rw [Bool.eq_iff_iff]; simp [addrPage]; omega) | (simp_all [addrPage] <;> rfl))
theorem spec_AddrCell_f (a : Int) : Fun Tryz.prog 321 [I a] (RV (.int .i64 (addrCell a))) := by
 refine Fun.w 7 Tryz.func321 fun w g0 _ => ?_
 refine cnd (fun hb => ?_) (fun hb => ?_)
 ·exact resV (by first | (simp_all [addrCell]; done) | (simp_all [addrCell]; omega) | (simp_all [addrCell] <;> (try intros) <;> omega) | (refine congrArg Value.bool ?_; rw [Bool.eq_iff_iff]; simp [addrCell]; omega) | (simp_all [addrCell] <;> rfl))
 ·refine nz ?_
  exact resV (by first | (simp_all [addrCell]; done) | (simp_all [addrCell]; omega) | (simp_all [addrCell] <;> (try intros) <;> omega) | (refine congrArg Value.bool ?_; rw [Bool.eq_iff_iff]; simp [addrCell]; omega) | (simp_all [addrCell] <;> rfl))
theorem impl_AddrCell_f (a : Int) : Fun Tryz.prog 371 [I a] (RV (.int .i64 (addrCell a))) := by
 refine Fun.w 7 Tryz.func371 fun w g0 _ => ?_
 refine cnd (fun hb => ?_) (fun hb => ?_)
 ·exact resV (by first | (simp_all [addrCell]; done) | (simp_all [addrCell]; omega) | (simp_all [addrCell] <;> (try intros) <;> omega) | (refine congrArg Value.bool ?_; rw [Bool.eq_iff_iff]; simp [addrCell]; omega) | (simp_all [addrCell] <;> rfl))
 ·refine nz ?_
  exact resV (by first | (simp_all [addrCell]; done) | (simp_all [addrCell]; omega) | (simp_all [addrCell] <;> (try intros) <;> omega) | (refine congrArg Value.bool ?_; rw [Bool.eq_iff_iff]; simp [addrCell]; omega) | (simp_all [addrCell] <;> rfl))
theorem spec_Brought_n {n : Nat} (h : n ≤ 24) : Fun Tryz.prog 170 [I n, I 0, I 24] (RV (.int .i64 n)) := by
 have h1 := spec_Brought_f n 0 24
 rwa [brought_in h] at h1
theorem spec_MemNew_f (n : Nat) (hn : n ≤ 24 := by omega) : Fun Tryz.prog 73 [I n] (RL 1 ((memNew n).map dIntS)) := by
 refine Fun.w 17 Tryz.func73 fun w g0 _ => ?_
 refine callP (spec_Brought_n hn).k ?_
 refine loopA [2, 3, 16] [3] [3] (fun (i : Nat) => [.set 4 (I ((n : Int) - i))]) (fun (i : Nat) => [(3, ⟨false, [.own (.sl 1 ((List.replicate i [0, 0, 0, 0]).map dIntS))]⟩)]) (fun (i : Nat) => i ≤ n) (fun (i : Nat) => n - i) (0) (Nat.zero_le _) ?_
 refine ⟨hda, fun i hyp N1 hN1 => ?_⟩
 have hyp : i ≤ n := hyp
 refine cnd (fun hb => ?_) (fun hb => ?_)
 ·refine mkw 4 ?_
  first | refine appOq ?_ | refine appO ?_
  refine rng ?_
  refine hN1 _ _ _ ?_
  refine nxa (i + 1) (by omega) (by repeat' first | exact rfl | refine And.intro ?_ ?_ | exact True.intro | (refine eqS ?_; simp [List.take_add_one, List.set_set, rangeF_succ, List.replicate_succ', *]; done) | (refine eqS ?_; exact congrArg (fun z : Int => (I z : TS)) (by omega)))
 ·refine hN1 _ _ _ ?_
  exact (by rw [show i = n by omega]; rfl)
theorem impl_Brought_n {n : Nat} (h : n ≤ 24) : Fun Tryz.prog 174 [I n, I 0, I 24] (RV (.int .i64 n)) := by
 have h1 := impl_Brought_f n 0 24
 rwa [brought_in h] at h1
theorem impl_MemNew_f (n : Nat) (hn : n ≤ 24 := by omega) : Fun Tryz.prog 79 [I n] (RL 1 ((memNew n).map dIntS)) := by
 refine Fun.w 17 Tryz.func79 fun w g0 _ => ?_
 refine loopA [0, 2, 3, 16] [3] [3] (fun (i : Nat) => [.set 4 (I i)]) (fun (i : Nat) => [(3, ⟨false, [.own (.sl 1 ((List.replicate i [0, 0, 0, 0]).map dIntS))]⟩)]) (fun (i : Nat) => i ≤ n) (fun (i : Nat) => n - i) (0) (Nat.zero_le _) ?_
 refine ⟨hda, fun i hyp N1 hN1 => ?_⟩
 have hyp : i ≤ n := hyp
 refine callP (impl_Brought_n hn).k ?_
 refine cnd (fun hb => ?_) (fun hb => ?_)
 ·refine mkw 4 ?_
  first | refine appOq ?_ | refine appO ?_
  refine rng ?_
  refine hN1 _ _ _ ?_
  refine nxa (i + 1) (by omega) (by repeat' first | exact rfl | refine And.intro ?_ ?_ | exact True.intro | (refine eqS ?_; simp [List.take_add_one, List.set_set, rangeF_succ, List.replicate_succ', *]; done) | (refine eqS ?_; exact congrArg (fun z : Int => (I z : TS)) (by omega)))
 ·refine hN1 _ _ _ ?_
  exact (by rw [show i = n by omega]; rfl)
end Go.Proofs.YteelmdpahpggkaaGreat.T

