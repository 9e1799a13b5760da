
import Derived.Test.YteelmdpahpggkaaGreatNap
namespace Go.Proofs.YteelmdpahpggkaaGreat.T
open Go
set_option linter.unusedVariables false
set_option linter.unusedSimpArgs false
set_option maxRecDepth 100000
set_option maxHeartbeats 1000000
theorem spec_TableOk_f (t : List VSlot) (size : Int) (pages : Int) [hp0 : Q (0 ≤ pages ∧ pages ≤ 1000)] : Fun Tryz.prog 194 [L 2 (t.map dSlot), I size, I pages] (RV (.bool (tableOk t size pages))) := by
 refine Fun.w 25 Tryz.func194 fun w g0 hM => ?_
 have hl0 := hM.1.map
 refine loopA [0, 1, 2, 21, 22, 23, 24] [] [] (fun (i : Nat) => [.set 7 (I i)]) (fun (i : Nat) => []) (fun (i : Nat) => (i ≤ t.length) ∧ ((t.take i).all (slotOk · pages) = true)) (fun (i : Nat) => t.length - i) (0) (⟨Nat.zero_le _, rfl⟩) ?_
 refine ⟨hda, fun i hyp N1 hN1 => ?_⟩
 have hyp : (i ≤ t.length) ∧ ((t.take i).all (slotOk · pages) = true) := hyp
 have ha := all_dec hyp.2
 refine len ?_
 refine cnd (fun hb => ?_) (fun hb => ?_)
 ·first | refine ixm (by assumption) ?_ | refine bnd ?_ | refine bndi ?_ | refine ixkq (fun y16 hy16 qy16 ly16 => ?_) | refine ixiq (fun y16 hy16 qy16 ly16 => ?_)
  first | refine ixs ?_ | refine ixo (by assumption) ?_ | refine ixoq (fun z1 hz1 qz1 lz1 => ?_) | skip
  refine callP (spec_SlotOk_f _ _).k ?_
  refine cnd (fun hb2 => ?_) (fun hb2 => ?_)
  ·refine hN1 _ _ _ ?_
   exact resV (by first | (unfold tableOk; rw [ha.1 _ (by assumption) (by first | assumption | exact decide_eq_false (by omega) | exact decide_eq_true (by omega))]; rfl) | (unfold tableOk; rw [ha.2 (by omega)]; first | rfl | (simp; done) | (simp; rfl) | (rw [Value.bool.injEq, Bool.eq_iff_iff]; simp; omega)))
  ·refine rng ?_
   refine hN1 _ _ _ ?_
   refine nxa (i + 1) (⟨by omega, all_next hyp.2 (by assumption) (by first | assumption | exact decide_eq_false (by omega) | exact decide_eq_true (by omega))⟩)
 ·refine hN1 _ _ _ ?_
  refine len ?_
  exact resV (by first | (unfold tableOk; rw [ha.1 _ (by assumption) (by first | assumption | exact decide_eq_false (by omega) | exact decide_eq_true (by omega))]; rfl) | (unfold tableOk; rw [ha.2 (by omega)]; first | rfl | (simp; done) | (simp; rfl) | (rw [Value.bool.injEq, Bool.eq_iff_iff]; simp; omega)))
theorem impl_TableOk_f (t : List VSlot) (size : Int) (pages : Int) [hp0 : Q (0 ≤ pages ∧ pages ≤ 1000)] : Fun Tryz.prog 206 [L 2 (t.map dSlot), I size, I pages] (RV (.bool (tableOk t size pages))) := by
 refine Fun.w 24 Tryz.func206 fun w g0 hM => ?_
 have hl0 := hM.1.map
 refine len ?_
 refine loopA [0, 1, 2, 9, 10, 20, 21, 22, 23] [] [] (fun (i : Nat) => [.set 11 (I i)]) (fun (i : Nat) => []) (fun (i : Nat) => (i ≤ t.length) ∧ ((t.take i).all (slotOk · pages) = true)) (fun (i : Nat) => t.length - i) (0) (⟨Nat.zero_le _, rfl⟩) ?_
 refine ⟨hda, fun i hyp N1 hN1 => ?_⟩
 have hyp : (i ≤ t.length) ∧ ((t.take i).all (slotOk · pages) = true) := hyp
 have ha := all_dec hyp.2
 refine cnd (fun hb => ?_) (fun hb => ?_)
 ·first | refine ixm (by assumption) ?_ | refine bnd ?_ | refine bndi ?_ | refine ixkq (fun y13 hy13 qy13 ly13 => ?_) | refine ixiq (fun y13 hy13 qy13 ly13 => ?_)
  first | refine ixs ?_ | refine ixo (by assumption) ?_ | refine ixoq (fun z1 hz1 qz1 lz1 => ?_) | skip
  refine callP (impl_SlotOk_f _ _).k ?_
  refine cnd (fun hb2 => ?_) (fun hb2 => ?_)
  ·refine hN1 _ _ _ ?_
   exact resV (by first | (unfold tableOk; rw [ha.1 _ (by assumption) (by first | assumption | exact decide_eq_false (by omega) | exact decide_eq_true (by omega))]; rfl) | (unfold tableOk; rw [ha.2 (by omega)]; first | rfl | (simp; done) | (simp; rfl) | (rw [Value.bool.injEq, Bool.eq_iff_iff]; simp; omega)))
  ·refine rng ?_
   refine hN1 _ _ _ ?_
   refine nxa (i + 1) (⟨by omega, all_next hyp.2 (by assumption) (by first | assumption | exact decide_eq_false (by omega) | exact decide_eq_true (by omega))⟩)
 ·refine hN1 _ _ _ ?_
  refine len ?_
  exact resV (by first | (unfold tableOk; rw [ha.1 _ (by assumption) (by first | assumption | exact decide_eq_false (by omega) | exact decide_eq_true (by omega))]; rfl) | (unfold tableOk; rw [ha.2 (by omega)]; first | rfl | (simp; done) | (simp; rfl) | (rw [Value.bool.injEq, Bool.eq_iff_iff]; simp; omega)))
theorem spec_PageOk_f (t : List Int) : Fun Tryz.prog 197 [L 1 (t.map dInt)] (RV (.bool (pageOk t))) := by
 refine Fun.w 19 Tryz.func197 fun w g0 hM => ?_
 have hl0 := hM.1.map
 refine loopA [0, 16, 17, 18] [] [] (fun (i : Nat) => [.set 3 (I i)]) (fun (i : Nat) => []) (fun (i : Nat) => (i ≤ t.length) ∧ ((t.take i).all (inR · 0 99) = true)) (fun (i : Nat) => t.length - i) (0) (⟨Nat.zero_le _, rfl⟩) ?_
 refine ⟨hda, fun i hyp N1 hN1 => ?_⟩
 have hyp : (i ≤ t.length) ∧ ((t.take i).all (inR · 0 99) = true) := hyp
 have ha := all_dec hyp.2
 refine len ?_
 refine cnd (fun hb => ?_) (fun hb => ?_)
 ·first | refine ixm (by assumption) ?_ | refine bnd ?_ | refine bndi ?_ | refine ixkq (fun y12 hy12 qy12 ly12 => ?_) | refine ixiq (fun y12 hy12 qy12 ly12 => ?_)
  first | refine ixs ?_ | refine ixo (by assumption) ?_ | refine ixoq (fun z1 hz1 qz1 lz1 => ?_) | skip
  refine callP (spec_l01In_f _ _ _).k ?_
  refine cnd (fun hb2 => ?_) (fun hb2 => ?_)
  ·refine hN1 _ _ _ ?_
   exact resV (by first | (unfold pageOk; rw [ha.1 _ (by assumption) (by first | assumption | exact decide_eq_false (by omega) | exact decide_eq_true (by omega))]; rfl) | (unfold pageOk; rw [ha.2 (by omega)]; first | rfl | (simp; done) | (simp; rfl) | (rw [Value.bool.injEq, Bool.eq_iff_iff]; simp; omega)))
  ·refine rng ?_
   refine hN1 _ _ _ ?_
   refine nxa (i + 1) (⟨by omega, all_next hyp.2 (by assumption) (by first | assumption | exact decide_eq_false (by omega) | exact decide_eq_true (by omega))⟩)
 ·refine hN1 _ _ _ ?_
  refine len ?_
  exact resV (by first | (unfold pageOk; rw [ha.1 _ (by assumption) (by first | assumption | exact decide_eq_false (by omega) | exact decide_eq_true (by omega))]; rfl) | (unfold pageOk; rw [ha.2 (by omega)]; first | rfl | (simp; done) | (simp; rfl) | (rw [Value.bool.injEq, Bool.eq_iff_iff]; simp; omega)))
theorem impl_PageOk_f (t : List Int) : Fun Tryz.prog 210 [L 1 (t.map dInt)] (RV (.bool (pageOk t))) := by
 refine Fun.w 18 Tryz.func210 fun w g0 hM => ?_
 have hl0 := hM.1.map
 refine len ?_
 refine loopA [0, 5, 6, 15, 16, 17] [] [] (fun (i : Nat) => [.set 7 (I i)]) (fun (i : Nat) => []) (fun (i : Nat) => (i ≤ t.length) ∧ ((t.take i).all (inR · 0 99) = true)) (fun (i : Nat) => t.length - i) (0) (⟨Nat.zero_le _, rfl⟩) ?_
 refine ⟨hda, fun i hyp N1 hN1 => ?_⟩
 have hyp : (i ≤ t.length) ∧ ((t.take i).all (inR · 0 99) = true) := hyp
 have ha := all_dec hyp.2
 refine cnd (fun hb => ?_) (fun hb => ?_)
 ·first | refine ixm (by assumption) ?_ | refine bnd ?_ | refine bndi ?_ | refine ixkq (fun y9 hy9 qy9 ly9 => ?_) | refine ixiq (fun y9 hy9 qy9 ly9 => ?_)
  first | refine ixs ?_ | refine ixo (by assumption) ?_ | refine ixoq (fun z1 hz1 qz1 lz1 => ?_) | skip
  refine callP (impl_within_f _ _ _).k ?_
  refine cnd (fun hb2 => ?_) (fun hb2 => ?_)
  ·refine hN1 _ _ _ ?_
   exact resV (by first | (unfold pageOk; rw [ha.1 _ (by assumption) (by first | assumption | exact decide_eq_false (by omega) | exact decide_eq_true (by omega))]; rfl) | (unfold pageOk; rw [ha.2 (by omega)]; first | rfl | (simp; done) | (simp; rfl) | (rw [Value.bool.injEq, Bool.eq_iff_iff]; simp; omega)))
  ·refine rng ?_
   refine hN1 _ _ _ ?_
   refine nxa (i + 1) (⟨by omega, all_next hyp.2 (by assumption) (by first | assumption | exact decide_eq_false (by omega) | exact decide_eq_true (by omega))⟩)
 ·refine hN1 _ _ _ ?_
  refine len ?_
  exact resV (by first | (unfold pageOk; rw [ha.1 _ (by assumption) (by first | assumption | exact decide_eq_false (by omega) | exact decide_eq_true (by omega))]; rfl) | (unfold pageOk; rw [ha.2 (by omega)]; first | rfl | (simp; done) | (simp; rfl) | (rw [Value.bool.injEq, Bool.eq_iff_iff]; simp; omega)))
theorem spec_MemOk_f (m : List (List Int)) (pages : Int) : Fun Tryz.prog 192 [L 1 (m.map dIntS), I pages] (RV (.bool (memOk m pages))) := by
 refine Fun.w 22 Tryz.func192 fun w g0 hM => ?_
 have hl0 := hM.1.map
 refine loopA [0, 1, 18, 19, 20, 21] [] [] (fun (i : Nat) => [.set 5 (I i)]) (fun (i : Nat) => []) (fun (i : Nat) => (i ≤ m.length) ∧ ((m.take i).all pageOk = true)) (fun (i : Nat) => m.length - i) (0) (⟨Nat.zero_le _, rfl⟩) ?_
 refine ⟨hda, fun i hyp N1 hN1 => ?_⟩
 have hyp : (i ≤ m.length) ∧ ((m.take i).all pageOk = true) := hyp
 have ha := all_dec hyp.2
 refine len ?_
 refine cnd (fun hb => ?_) (fun hb => ?_)
 ·first | refine ixm (by assumption) ?_ | refine bnd ?_ | refine bndi ?_ | refine ixkq (fun y14 hy14 qy14 ly14 => ?_) | refine ixiq (fun y14 hy14 qy14 ly14 => ?_)
  first | refine ixs ?_ | refine ixo (by assumption) ?_ | refine ixoq (fun z1 hz1 qz1 lz1 => ?_) | skip
  refine callP (spec_PageOk_f _).k ?_
  refine cnd (fun hb2 => ?_) (fun hb2 => ?_)
  ·refine hN1 _ _ _ ?_
   exact resV (by first | (unfold memOk; rw [ha.1 _ (by assumption) (by first | assumption | exact decide_eq_false (by omega) | exact decide_eq_true (by omega))]; rfl) | (unfold memOk; rw [ha.2 (by omega)]; first | rfl | (simp; done) | (simp; rfl) | (rw [Value.bool.injEq, Bool.eq_iff_iff]; simp; omega)))
  ·refine rng ?_
   refine hN1 _ _ _ ?_
   refine nxa (i + 1) (⟨by omega, all_next hyp.2 (by assumption) (by first | assumption | exact decide_eq_false (by omega) | exact decide_eq_true (by omega))⟩)
 ·refine hN1 _ _ _ ?_
  refine len ?_
  exact resV (by first | (unfold memOk; rw [ha.1 _ (by assumption) (by first | assumption | exact decide_eq_false (by omega) | exact decide_eq_true (by omega))]; rfl) | (unfold memOk; rw [ha.2 (by omega)]; first | rfl | (simp; done) | (simp; rfl) | (rw [Value.bool.injEq, Bool.eq_iff_iff]; simp; omega)))
theorem impl_MemOk_f (m : List (List Int)) (pages : Int) : Fun Tryz.prog 204 [L 1 (m.map dIntS), I pages] (RV (.bool (memOk m pages))) := by
 refine Fun.w 21 Tryz.func204 fun w g0 hM => ?_
 have hl0 := hM.1.map
 refine len ?_
 refine loopA [0, 1, 7, 8, 17, 18, 19, 20] [] [] (fun (i : Nat) => [.set 9 (I i)]) (fun (i : Nat) => []) (fun (i : Nat) => (i ≤ m.length) ∧ ((m.take i).all pageOk = true)) (fun (i : Nat) => m.length - i) (0) (⟨Nat.zero_le _, rfl⟩) ?_
 refine ⟨hda, fun i hyp N1 hN1 => ?_⟩
 have hyp : (i ≤ m.length) ∧ ((m.take i).all pageOk = true) := hyp
 have ha := all_dec hyp.2
 refine cnd (fun hb => ?_) (fun hb => ?_)
 ·first | refine ixm (by assumption) ?_ | refine bnd ?_ | refine bndi ?_ | refine ixkq (fun y11 hy11 qy11 ly11 => ?_) | refine ixiq (fun y11 hy11 qy11 ly11 => ?_)
  first | refine ixs ?_ | refine ixo (by assumption) ?_ | refine ixoq (fun z1 hz1 qz1 lz1 => ?_) | skip
  refine callP (impl_PageOk_f _).k ?_
  refine cnd (fun hb2 => ?_) (fun hb2 => ?_)
  ·refine hN1 _ _ _ ?_
   exact resV (by first | (unfold memOk; rw [ha.1 _ (by assumption) (by first | assumption | exact decide_eq_false (by omega) | exact decide_eq_true (by omega))]; rfl) | (unfold memOk; rw [ha.2 (by omega)]; first | rfl | (simp; done) | (simp; rfl) | (rw [Value.bool.injEq, Bool.eq_iff_iff]; simp; omega)))
  ·refine rng ?_
   refine hN1 _ _ _ ?_
   refine nxa (i + 1) (⟨by omega, all_next hyp.2 (by assumption) (by first | assumption | exact decide_eq_false (by omega) | exact decide_eq_true (by omega))⟩)
 ·refine hN1 _ _ _ ?_
  refine len ?_
  exact resV (by first | (unfold memOk; rw [ha.1 _ (by assumption) (by first | assumption | exact decide_eq_false (by omega) | exact decide_eq_true (by omega))]; rfl) | (unfold memOk; rw [ha.2 (by omega)]; first | rfl | (simp; done) | (simp; rfl) | (rw [Value.bool.injEq, Bool.eq_iff_iff]; simp; omega)))
theorem spec_UsesOf_f (t : List VSlot) (page : Int) [Q (SmSlotS t)] : Fun Tryz.prog 401 [L 2 (t.map dSlot), I page] (RL 1 ((usesOf t page).map dInt)) := by
 refine Fun.w 26 Tryz.func401 fun w g0 hM => ?_
 have hl0 := hM.1.map
 refine loopA [0, 1, 4, 5, 25] [5] [5] (fun (i : Nat) => [.set 6 (I i)]) (fun (i : Nat) => [(5, ⟨false, [.own (.sl 1 ((rangeF (usesB t page) i).map dInt))]⟩)]) (fun (i : Nat) => i ≤ t.length) (fun (i : Nat) => t.length - i) (0) (Nat.zero_le _) ?_
 refine ⟨hda, fun i hyp N1 hN1 => ?_⟩
 have hyp : i ≤ t.length := hyp
 have hr := @rangeF_len (usesB t page) i
 have ht := (inferInstance : LenX t 1048576).h
 refine len ?_
 refine cnd (fun hb => ?_) (fun hb => ?_)
 ·first | refine ixm (by assumption) ?_ | refine bnd ?_ | refine bndi ?_ | refine ixkq (fun y16 hy16 qy16 ly16 => ?_) | refine ixiq (fun y16 hy16 qy16 ly16 => ?_)
  first | refine ixs ?_ | refine ixo (by assumption) ?_ | refine ixoq (fun z1 hz1 qz1 lz1 => ?_) | skip
  refine cnd (fun hb2 => ?_) (fun hb2 => ?_)
  ·first | refine appPq ?_ | refine appP ?_
   refine rng ?_
   refine hN1 _ _ _ ?_
   refine nxa (i + 1) (by omega) (by repeat' first | exact rfl | refine And.intro ?_ ?_ | exact True.intro | (refine eqS ?_; simp [List.take_add_one, List.set_set, rangeF_succ, usesB, *]; done) | (refine eqS ?_; exact congrArg (fun z : Int => (I z : TS)) (by omega)))
  ·refine rng ?_
   refine hN1 _ _ _ ?_
   refine nxa (i + 1) (by omega) (by repeat' first | exact rfl | refine And.intro ?_ ?_ | exact True.intro | (refine eqS ?_; simp [List.take_add_one, List.set_set, rangeF_succ, usesB, *]; done) | (refine eqS ?_; exact congrArg (fun z : Int => (I z : TS)) (by omega)))
 ·refine hN1 _ _ _ ?_
  exact (by rw [show i = t.length by omega]; rfl)
theorem impl_UsesOf_f (t : List VSlot) (page : Int) [Q (SmSlotS t)] : Fun Tryz.prog 402 [L 2 (t.map dSlot), I page] (RL 1 ((usesOf t page).map dInt)) := by
 refine Fun.w 26 Tryz.func402 fun w g0 hM => ?_
 have hl0 := hM.1.map
 refine len ?_
 refine loopA [1, 4, 5, 9, 10, 25] [5] [5] (fun (i : Nat) => [.set 11 (I i)]) (fun (i : Nat) => [(5, ⟨false, [.own (.sl 1 ((rangeF (usesB t page) i).map dInt))]⟩)]) (fun (i : Nat) => i ≤ t.length) (fun (i : Nat) => t.length - i) (0) (Nat.zero_le _) ?_
 refine ⟨hda, fun i hyp N1 hN1 => ?_⟩
 have hyp : i ≤ t.length := hyp
 have hr := @rangeF_len (usesB t page) i
 have ht := (inferInstance : LenX t 1048576).h
 refine cnd (fun hb => ?_) (fun hb => ?_)
 ·first | refine ixm (by assumption) ?_ | refine bnd ?_ | refine bndi ?_ | refine ixkq (fun y14 hy14 qy14 ly14 => ?_) | refine ixiq (fun y14 hy14 qy14 ly14 => ?_)
  first | refine ixs ?_ | refine ixo (by assumption) ?_ | refine ixoq (fun z1 hz1 qz1 lz1 => ?_) | skip
  refine cnd (fun hb2 => ?_) (fun hb2 => ?_)
  ·first | refine appPq ?_ | refine appP ?_
   refine rng ?_
   refine hN1 _ _ _ ?_
   refine nxa (i + 1) (by omega) (by repeat' first | exact rfl | refine And.intro ?_ ?_ | exact True.intro | (refine eqS ?_; simp [List.take_add_one, List.set_set, rangeF_succ, usesB, *]; done) | (refine eqS ?_; exact congrArg (fun z : Int => (I z : TS)) (by omega)))
  ·refine rng ?_
   refine hN1 _ _ _ ?_
   refine nxa (i + 1) (by omega) (by repeat' first | exact rfl | refine And.intro ?_ ?_ | exact True.intro | (refine eqS ?_; simp [List.take_add_one, List.set_set, rangeF_succ, usesB, *]; done) | (refine eqS ?_; exact congrArg (fun z : Int => (I z : TS)) (by omega)))
 ·refine hN1 _ _ _ ?_
  exact (by rw [show i = t.length by omega]; rfl)
theorem impl_copyInts_f (x : List Int) [Q (SmIntS x)] : Fun Tryz.prog 83 [L 1 (x.map dInt)] (RL 1 (x.map dInt)) := by
 refine Fun.w 6 Tryz.func83 fun w g0 _ => ?_
 first | refine appPq ?_ | refine appP ?_
 exact rfl
theorem impl_copyTable_f (x : List VSlot) [Q (SmSlotS x)] : Fun Tryz.prog 212 [L 2 (x.map dSlot)] (RL 2 (x.map dSlot)) := by
 refine Fun.w 6 Tryz.func212 fun w g0 _ => ?_
 first | refine appPq ?_ | refine appP ?_
 exact rfl
theorem impl_copyProg_f (x : List VIns) [Q (SmInsS x)] : Fun Tryz.prog 289 [L 2 (x.map dIns)] (RL 2 (x.map dIns)) := by
 refine Fun.w 6 Tryz.func289 fun w g0 _ => ?_
 first | refine appPq ?_ | refine appP ?_
 exact rfl
theorem spec_l04Copy_f (m : List (List Int)) [Q (SmIntSS m)] : Fun Tryz.prog 127 [L 1 (m.map dIntS)] (RL 1 (m.map dIntS)) := by
 refine Fun.w 22 Tryz.func127 fun w g0 hM => ?_
 have hl0 := hM.1.map
 refine loopA [0, 2, 3, 21] [3] [3] (fun (i : Nat) => [.set 4 (I i)]) (fun (i : Nat) => [(3, ⟨false, [.own (.sl 1 ((m.take i).map dIntS))]⟩)]) (fun (i : Nat) => i ≤ m.length) (fun (i : Nat) => m.length - i) (0) (Nat.zero_le _) ?_
 refine ⟨hda, fun i hyp N1 hN1 => ?_⟩
 have hyp : i ≤ m.length := hyp
 refine len ?_
 refine cnd (fun hb => ?_) (fun hb => ?_)
 ·first | refine ixm (by assumption) ?_ | refine bnd ?_ | refine bndi ?_ | refine ixkq (fun y16 hy16 qy16 ly16 => ?_) | refine ixiq (fun y16 hy16 qy16 ly16 => ?_)
  first | refine ixs ?_ | refine ixo (by assumption) ?_ | refine ixoq (fun z1 hz1 qz1 lz1 => ?_) | skip
  first | refine appPq ?_ | refine appP ?_
  first | refine appOq ?_ | refine appO ?_
  refine rng ?_
  refine hN1 _ _ _ ?_
  refine nxa (i + 1) (by omega)
 ·refine hN1 _ _ _ ?_
  exact (by rw [List.take_of_length_le (by omega)]; rfl)
theorem impl_copyMem_f (m : List (List Int)) [Q (SmIntSS m)] : Fun Tryz.prog 81 [L 1 (m.map dIntS)] (RL 1 (m.map dIntS)) := by
 refine Fun.w 20 Tryz.func81 fun w g0 hM => ?_
 have hl0 := hM.1.map
 refine len ?_
 refine loopA [2, 3, 7, 8, 19] [3] [3] (fun (i : Nat) => [.set 9 (I i)]) (fun (i : Nat) => [(3, ⟨false, [.own (.sl 1 ((m.take i).map dIntS))]⟩)]) (fun (i : Nat) => i ≤ m.length) (fun (i : Nat) => m.length - i) (0) (Nat.zero_le _) ?_
 refine ⟨hda, fun i hyp N1 hN1 => ?_⟩
 have hyp : i ≤ m.length := hyp
 refine cnd (fun hb => ?_) (fun hb => ?_)
 ·first | refine ixm (by assumption) ?_ | refine bnd ?_ | refine bndi ?_ | refine ixkq (fun y11 hy11 qy11 ly11 => ?_) | refine ixiq (fun y11 hy11 qy11 ly11 => ?_)
  first | refine ixs ?_ | refine ixo (by assumption) ?_ | refine ixoq (fun z1 hz1 qz1 lz1 => ?_) | skip
  refine callL (impl_copyInts_f _).k ?_
  first | refine appOq ?_ | refine appO ?_
  refine rng ?_
  refine hN1 _ _ _ ?_
  refine nxa (i + 1) (by omega)
 ·refine hN1 _ _ _ ?_
  exact (by rw [List.take_of_length_le (by omega)]; rfl)
end Go.Proofs.YteelmdpahpggkaaGreat.T

namespace Go.Proofs.YteelmdpahpggkaaGreat.T
open Go
set_option linter.unusedVariables false
set_option linter.unusedSimpArgs false
set_option maxRecDepth 100000
set_option maxHeartbeats 1000000
theorem brought_in {n : Nat} (h : n ≤ 24) : brought n 0 24 = n := by unfold brought; rw [if_neg (by omega), if_neg (by omega)]
theorem spec_PageAt_f (m : List (List Int)) (n : Int) [Q (SmIntSS m)] : Fun Tryz.prog 219 [L 1 (m.map dIntS), I n] (RL 1 ((pageAt m n).map dInt)) := by
 refine Fun.w 18 Tryz.func219 fun w g0 hM => ?_
 have hl0 := hM.1.map
 refine len ?_
 refine rng ?_
 refine callP (spec_l01In_f _ _ _).k ?_
 refine cnd (fun hb => ?_) (fun hb => ?_)
 ·refine mkw 4 ?_
  exact (by first | (rw [pageAt, at_out (by omega)]; rfl) | (rw [pageAt, at_in (by omega) (by assumption)]; rfl))
 ·first | refine ixm (by assumption) ?_ | refine bnd ?_ | refine bndi ?_ | refine ixkq (fun y15 hy15 qy15 ly15 => ?_) | refine ixiq (fun y15 hy15 qy15 ly15 => ?_)
  first | refine ixs ?_ | refine ixo (by assumption) ?_ | refine ixoq (fun z1 hz1 qz1 lz1 => ?_) | skip
  first | refine appPq ?_ | refine appP ?_
  exact (by first | (rw [pageAt, at_out (by omega)]; rfl) | (rw [pageAt, at_in (by omega) (by assumption)]; rfl))
theorem impl_PageAt_f (m : List (List Int)) (n : Int) [Q (SmIntSS m)] : Fun Tryz.prog 222 [L 1 (m.map dIntS), I n] (RL 1 ((pageAt m n).map dInt)) := by
 refine Fun.w 16 Tryz.func222 fun w g0 hM => ?_
 have hl0 := hM.1.map
 refine len ?_
 refine callP (impl_has_f _ _).k ?_
 refine cnd (fun hb => ?_) (fun hb => ?_)
 ·refine mkw 4 ?_
  exact (by first | (rw [pageAt, at_out (by omega)]; rfl) | (rw [pageAt, at_in (by omega) (by assumption)]; rfl))
 ·first | refine ixm (by assumption) ?_ | refine bnd ?_ | refine bndi ?_ | refine ixkq (fun y13 hy13 qy13 ly13 => ?_) | refine ixiq (fun y13 hy13 qy13 ly13 => ?_)
  first | refine ixs ?_ | refine ixo (by assumption) ?_ | refine ixoq (fun z1 hz1 qz1 lz1 => ?_) | skip
  refine callL (impl_copyInts_f _).k ?_
  exact (by first | (rw [pageAt, at_out (by omega)]; rfl) | (rw [pageAt, at_in (by omega) (by assumption)]; rfl))
theorem spec_Brought_n {n : Nat} (h : n ≤ 24) : Fun Tryz.prog 170 [I n, I 0, I 24] (RV (.int .i64 n)) := by
 have h1 := spec_Brought_f n 0 24
 rwa [brought_in h] at h1
theorem impl_Brought_n {n : Nat} (h : n ≤ 24) : Fun Tryz.prog 174 [I n, I 0, I 24] (RV (.int .i64 n)) := by
 have h1 := impl_Brought_f n 0 24
 rwa [brought_in h] at h1
end Go.Proofs.YteelmdpahpggkaaGreat.T

