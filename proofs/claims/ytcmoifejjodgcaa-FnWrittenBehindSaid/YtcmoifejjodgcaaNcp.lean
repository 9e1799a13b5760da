
import Derived.Test.YtcmoifejjodgcaaMbp
namespace Go.Proofs.Ytcmoifejjodgcaa.T
open Go
set_option linter.unusedVariables false
set_option linter.unusedSimpArgs false
set_option maxRecDepth 100000
set_option maxHeartbeats 1000000
instance : Q ((0 : Int) ≤ 8 ∧ (8 : Int) ≤ 1000) := ⟨by omega⟩
instance : Q ((0 : Int) ≤ 12 ∧ (12 : Int) ≤ 1000) := ⟨by omega⟩
theorem at_in {α : Type} {xs : List α} {i : Int} {y : α} (h : 0 ≤ i) (hy : xs[i.toNat]? = some y) : at? xs i = some y := by unfold at?; rw [if_pos h, hy]
theorem at_out {α : Type} {xs : List α} {i : Int} (h : ¬ (0 ≤ i ∧ i < xs.length)) : at? xs i = none := by
 unfold at?
 split
 ·exact List.getElem?_eq_none (by omega)
 ·rfl
theorem put_in {α : Type} {xs : List α} {i : Int} {y : α} (h : 0 ≤ i) : put xs i y = xs.set i.toNat y := by unfold put; rw [if_pos h]
theorem put_out {α : Type} {xs : List α} {i : Int} {y : α} (h : ¬ (0 ≤ i ∧ i < xs.length)) : put xs i y = xs := by
 unfold put
 split
 ·exact List.set_eq_of_length_le (by omega)
 ·rfl
theorem put_len {α : Type} {xs : List α} {i : Int} {y : α} : (put xs i y).length = xs.length := by unfold put; split <;> simp
theorem spec_l01In_f (n : Int) (a : Int) (b : Int) : Fun Try.prog 55 [I n, I a, I b] (RV (.bool (inR n a b))) := by
 refine Fun.w 15 Try.func55 fun w g0 _ => ?_
 refine cnd (fun hg3 => ?_) (fun hg3 => ?_)
 ·exact resV (by first | (rfl; done) | (simp_all; done) | (simp_all; omega) | (refine congrArg Value.bool ?_; rw [Bool.eq_iff_iff]; simp; omega))
 ·exact resV (by first | (rfl; done) | (simp_all; done) | (simp_all; omega) | (refine congrArg Value.bool ?_; rw [Bool.eq_iff_iff]; simp; omega))
theorem impl_within_f (n : Int) (a : Int) (b : Int) : Fun Try.prog 48 [I n, I a, I b] (RV (.bool (inR n a b))) := by
 refine Fun.w 15 Try.func48 fun w g0 _ => ?_
 refine cnd (fun hg3 => ?_) (fun hg3 => ?_)
 ·exact resV (by first | (rfl; done) | (simp_all; done) | (simp_all; omega) | (refine congrArg Value.bool ?_; rw [Bool.eq_iff_iff]; simp; omega))
 ·exact resV (by first | (rfl; done) | (simp_all; done) | (simp_all; omega) | (refine congrArg Value.bool ?_; rw [Bool.eq_iff_iff]; simp; omega))
theorem impl_has_f (k : Int) (n : Int) : Fun Try.prog 19 [I k, I n] (RV (.bool (decide (0 ≤ k ∧ k < n)))) := by
 refine Fun.w 12 Try.func19 fun w g0 _ => ?_
 refine cnd (fun hg2 => ?_) (fun hg2 => ?_)
 ·exact resV (by first | (rfl; done) | (simp_all; done) | (simp_all; omega) | (refine congrArg Value.bool ?_; rw [Bool.eq_iff_iff]; simp; omega))
 ·exact resV (by first | (rfl; done) | (simp_all; done) | (simp_all; omega) | (refine congrArg Value.bool ?_; rw [Bool.eq_iff_iff]; simp; omega))
theorem spec_Brought_f (n : Int) (a : Int) (b : Int) : Fun Try.prog 34 [I n, I a, I b] (RV (.int .i64 (brought n a b))) := by
 refine Fun.w 21 Try.func34 fun w g0 _ => ?_
 refine cnd (fun hg3 => ?_) (fun hg3 => ?_)
 ·exact resV (by first | (simp_all [brought]; done) | (simp_all [brought]; omega) | (simp_all [brought] <;> (try intros) <;> omega) | (refine congrArg Value.bool ?_; rw [Bool.eq_iff_iff]; simp [brought]; omega) | (simp_all [brought] <;> rfl))
 ·refine cnd (fun hb => ?_) (fun hb => ?_)
  ·exact resV (by first | (simp_all [brought]; done) | (simp_all [brought]; omega) | (simp_all [brought] <;> (try intros) <;> omega) | (refine congrArg Value.bool ?_; rw [Bool.eq_iff_iff]; simp [brought]; omega) | (simp_all [brought] <;> rfl))
  ·refine cnd (fun hb2 => ?_) (fun hb2 => ?_)
   ·exact resV (by first | (simp_all [brought]; done) | (simp_all [brought]; omega) | (simp_all [brought] <;> (try intros) <;> omega) | (refine congrArg Value.bool ?_; rw [Bool.eq_iff_iff]; simp [brought]; omega) | (simp_all [brought] <;> rfl))
   ·exact resV (by first | (simp_all [brought]; done) | (simp_all [brought]; omega) | (simp_all [brought] <;> (try intros) <;> omega) | (refine congrArg Value.bool ?_; rw [Bool.eq_iff_iff]; simp [brought]; omega) | (simp_all [brought] <;> rfl))
theorem impl_Brought_f (n : Int) (a : Int) (b : Int) : Fun Try.prog 53 [I n, I a, I b] (RV (.int .i64 (brought n a b))) := by
 refine Fun.w 19 Try.func53 fun w g0 _ => ?_
 refine cnd (fun hg3 => ?_) (fun hg3 => ?_)
 ·exact resV (by first | (simp_all [brought]; done) | (simp_all [brought]; omega) | (simp_all [brought] <;> (try intros) <;> omega) | (refine congrArg Value.bool ?_; rw [Bool.eq_iff_iff]; simp [brought]; omega) | (simp_all [brought] <;> rfl))
 ·refine cnd (fun hb => ?_) (fun hb => ?_)
  ·exact resV (by first | (simp_all [brought]; done) | (simp_all [brought]; omega) | (simp_all [brought] <;> (try intros) <;> omega) | (refine congrArg Value.bool ?_; rw [Bool.eq_iff_iff]; simp [brought]; omega) | (simp_all [brought] <;> rfl))
  ·exact resV (by first | (simp_all [brought]; done) | (simp_all [brought]; omega) | (simp_all [brought] <;> (try intros) <;> omega) | (refine congrArg Value.bool ?_; rw [Bool.eq_iff_iff]; simp [brought]; omega) | (simp_all [brought] <;> rfl))
theorem impl_RightsOk_f (r : Int) : Fun Try.prog 70 [I r] (RV (.bool (inR r 0 3))) := by
 refine Fun.w 5 Try.func70 fun w g0 _ => ?_
 refine callP (impl_within_f _ _ _).k ?_
 exact rfl
theorem impl_Enough_f (r : Int) (n : Int) : Fun Try.prog 50 [I r, I n] (RV (.bool (enough r n))) := by
 refine Fun.w 18 Try.func50 fun w g0 _ => ?_
 refine callP (impl_RightsOk_f _).k ?_
 refine cnd (fun hg2 => ?_) (fun hg2 => ?_)
 ·refine callP (impl_RightsOk_f _).k ?_
  refine cnd (fun hg6 => ?_) (fun hg6 => ?_)
  ·exact resV (by first | (simp_all [enough]; done) | (simp_all [enough]; omega) | (simp_all [enough] <;> (try intros) <;> omega) | (refine congrArg Value.bool ?_; rw [Bool.eq_iff_iff]; simp [enough]; omega) | (simp_all [enough] <;> rfl))
  ·exact resV (by first | (simp_all [enough]; done) | (simp_all [enough]; omega) | (simp_all [enough] <;> (try intros) <;> omega) | (refine congrArg Value.bool ?_; rw [Bool.eq_iff_iff]; simp [enough]; omega) | (simp_all [enough] <;> rfl))
 ·exact resV (by first | (simp_all [enough]; done) | (simp_all [enough]; omega) | (simp_all [enough] <;> (try intros) <;> omega) | (refine congrArg Value.bool ?_; rw [Bool.eq_iff_iff]; simp [enough]; omega) | (simp_all [enough] <;> rfl))
theorem spec_NoSlot_f  : Fun Try.prog 56 [] (RP (A (rSlot noSlot))) := by
 refine Fun.w 2 Try.func56 fun w g0 _ => ?_
 exact rfl
theorem impl_NoSlot_f  : Fun Try.prog 52 [] (RP (A (rSlot noSlot))) := by
 refine Fun.w 2 Try.func52 fun w g0 _ => ?_
 exact rfl
theorem impl_SlotOk_f (x : VSlot) (pages : Int) [hp0 : Q (0 ≤ pages ∧ pages ≤ 1000)] : Fun Try.prog 86 [A (rSlot x), I pages] (RV (.bool (slotOk x pages))) := by
 refine Fun.w 24 Try.func86 fun w g0 _ => ?_
 have hp := hp0.h
 refine regQ ?_
 refine callQ (impl_NoSlot_f).k ?_
 refine eqa ?_
 refine cnd (fun hg3 => ?_) (fun hg3 => ?_)
 ·exact resV (by first | (cases x; (simp_all [slotOk]; done)) | (cases x; (simp_all [slotOk]; omega)) | (cases x; (simp_all [slotOk] <;> (try intros) <;> omega)) | (cases x; (refine congrArg Value.bool ?_; rw [Bool.eq_iff_iff]; simp [slotOk]; omega)) | (cases x; (simp_all [slotOk] <;> rfl)))
 ·refine cnd (fun hg6 => ?_) (fun hg6 => ?_)
  ·refine rng ?_
   refine callQ (impl_within_f _ _ _).k ?_
   refine cnd (fun hg13 => ?_) (fun hg13 => ?_)
   ·refine callQ (impl_within_f _ _ _).k ?_
    exact resV (by first | (cases x; (simp_all [slotOk]; done)) | (cases x; (simp_all [slotOk]; omega)) | (cases x; (simp_all [slotOk] <;> (try intros) <;> omega)) | (cases x; (refine congrArg Value.bool ?_; rw [Bool.eq_iff_iff]; simp [slotOk]; omega)) | (cases x; (simp_all [slotOk] <;> rfl)))
   ·exact resV (by first | (cases x; (simp_all [slotOk]; done)) | (cases x; (simp_all [slotOk]; omega)) | (cases x; (simp_all [slotOk] <;> (try intros) <;> omega)) | (cases x; (refine congrArg Value.bool ?_; rw [Bool.eq_iff_iff]; simp [slotOk]; omega)) | (cases x; (simp_all [slotOk] <;> rfl)))
  ·exact resV (by first | (cases x; (simp_all [slotOk]; done)) | (cases x; (simp_all [slotOk]; omega)) | (cases x; (simp_all [slotOk] <;> (try intros) <;> omega)) | (cases x; (refine congrArg Value.bool ?_; rw [Bool.eq_iff_iff]; simp [slotOk]; omega)) | (cases x; (simp_all [slotOk] <;> rfl)))
theorem impl_SlotAt_f (t : List VSlot) (n : Int) : Fun Try.prog 40 [L 2 (t.map dSlot), I n] (RP (A (rSlot (slotAt t n)))) := by
 refine Fun.w 15 Try.func40 fun w g0 hM => ?_
 have hl0 := hM.1.map
 refine len ?_
 refine callP (impl_has_f _ _).k ?_
 refine cnd (fun hb => ?_) (fun hb => ?_)
 ·refine callP (impl_NoSlot_f).k ?_
  exact (by first | (rw [slotAt, at_out (by omega)]; rfl) | (rw [slotAt, at_in (by omega) (by assumption)]; rfl))
 ·first | refine ixm (by assumption) ?_ | refine bnd ?_ | refine bndi ?_ | refine ixkq (fun y13 hy13 qy13 ly13 => ?_) | refine ixiq (fun y13 hy13 qy13 ly13 => ?_)
  first | refine ixs ?_ | refine ixo (by assumption) ?_ | refine ixoq (fun z1 hz1 qz1 lz1 => ?_) | skip
  exact (by first | (rw [slotAt, at_out (by omega)]; rfl) | (rw [slotAt, at_in (by omega) (by assumption)]; rfl))
end Go.Proofs.Ytcmoifejjodgcaa.T

namespace Go.Proofs.Ytcmoifejjodgcaa.T
open Go
set_option linter.unusedVariables false
set_option linter.unusedSimpArgs false
set_option maxRecDepth 100000
set_option maxHeartbeats 1000000
def hasCell (m : List (List Int)) (p c : Int) : Bool := match at? m p with | some r => decide (0 ≤ c ∧ c < r.length) | none => false
theorem hasCell_no {m : List (List Int)} {p c : Int} (h : ¬ (0 ≤ p ∧ p < m.length)) : hasCell m p c = false := by unfold hasCell; rw [at_out h]
theorem hasCell_in {m : List (List Int)} {p c : Int} {r : List Int} (h : 0 ≤ p) (hr : m[p.toNat]? = some r) : hasCell m p c = decide (0 ≤ c ∧ c < r.length) := by unfold hasCell; rw [at_in h hr]
theorem hasCell_yes {m : List (List Int)} {p c : Int} (h : hasCell m p c = true) : ∃ r, 0 ≤ p ∧ m[p.toNat]? = some r ∧ at? m p = some r ∧ 0 ≤ c ∧ c < r.length := by
 unfold hasCell at h
 split at h
 ·rename_i r hr
  have h0 := hr
  unfold at? at h0
  split at h0
  ·rename_i hp
   have := of_decide_eq_true h
   exact ⟨r, hp, h0, hr, this⟩
  ·cases h0
 ·cases h
theorem cell_no {m : List (List Int)} {p c : Int} (h : hasCell m p c = false) : cellAt m p c = 0 := by
 unfold hasCell at h
 unfold cellAt
 split at h
 ·rename_i r hr
  rw [hr]
  simp only [Option.bind_some]
  rw [at_out (of_decide_eq_false h)]
  rfl
 ·rename_i hr
  rw [hr]
  rfl
theorem cell_in {m : List (List Int)} {p c v : Int} {r : List Int} (h : 0 ≤ p) (hr : m[p.toNat]? = some r) (hc : 0 ≤ c) (hv : r[c.toNat]? = some v) : cellAt m p c = v := by
 unfold cellAt
 rw [at_in h hr]
 simp only [Option.bind_some]
 rw [at_in hc hv]
 rfl
theorem cell_out {m : List (List Int)} {p c : Int} (h : ¬ (0 ≤ p ∧ p < m.length)) : cellAt m p c = 0 := cell_no (hasCell_no h)
theorem cell_off {m : List (List Int)} {p c : Int} {r : List Int} (h : 0 ≤ p) (hr : m[p.toNat]? = some r) (hc : ¬ (0 ≤ c ∧ c < r.length)) : cellAt m p c = 0 := cell_no (by rw [hasCell_in h hr]; exact decide_eq_false hc)
theorem impl_TableOk_f (t : List VSlot) (size : Int) (pages : Int) [hp0 : Q (0 ≤ pages ∧ pages ≤ 1000)] : Fun Try.prog 73 [L 2 (t.map dSlot), I size, I pages] (RV (.bool (tableOk t size pages))) := by
 refine Fun.w 24 Try.func73 fun w g0 hM => ?_
 have hl0 := hM.1.map
 refine len ?_
 refine loopA [0, 1, 2, 9, 10, 20, 21, 22, 23] [] [] (fun (i : Nat) => [.set 11 (I i)]) (fun (i : Nat) => []) (fun (i : Nat) => (i ≤ t.length) ∧ ((t.take i).all (slotOk · pages) = true)) (fun (i : Nat) => t.length - i) (0) (⟨Nat.zero_le _, rfl⟩) ?_
 refine ⟨hda, fun i hyp N1 hN1 => ?_⟩
 have hyp : (i ≤ t.length) ∧ ((t.take i).all (slotOk · pages) = true) := hyp
 have ha := all_dec hyp.2
 refine cnd (fun hb => ?_) (fun hb => ?_)
 ·first | refine ixm (by assumption) ?_ | refine bnd ?_ | refine bndi ?_ | refine ixkq (fun y13 hy13 qy13 ly13 => ?_) | refine ixiq (fun y13 hy13 qy13 ly13 => ?_)
  first | refine ixs ?_ | refine ixo (by assumption) ?_ | refine ixoq (fun z1 hz1 qz1 lz1 => ?_) | skip
  refine callP (impl_SlotOk_f _ _).k ?_
  refine cnd (fun hb2 => ?_) (fun hb2 => ?_)
  ·refine hN1 _ _ _ ?_
   exact resV (by first | (unfold tableOk; rw [ha.1 _ (by assumption) (by first | assumption | exact decide_eq_false (by omega) | exact decide_eq_true (by omega))]; rfl) | (unfold tableOk; rw [ha.2 (by omega)]; first | rfl | (simp; done) | (simp; rfl) | (rw [Value.bool.injEq, Bool.eq_iff_iff]; simp; omega)))
  ·refine rng ?_
   refine hN1 _ _ _ ?_
   refine nxa (i + 1) (⟨by omega, all_next hyp.2 (by assumption) (by first | assumption | exact decide_eq_false (by omega) | exact decide_eq_true (by omega))⟩)
 ·refine hN1 _ _ _ ?_
  refine len ?_
  exact resV (by first | (unfold tableOk; rw [ha.1 _ (by assumption) (by first | assumption | exact decide_eq_false (by omega) | exact decide_eq_true (by omega))]; rfl) | (unfold tableOk; rw [ha.2 (by omega)]; first | rfl | (simp; done) | (simp; rfl) | (rw [Value.bool.injEq, Bool.eq_iff_iff]; simp; omega)))
theorem impl_PageOk_f (t : List Int) : Fun Try.prog 72 [L 1 (t.map dInt)] (RV (.bool (pageOk t))) := by
 refine Fun.w 18 Try.func72 fun w g0 hM => ?_
 have hl0 := hM.1.map
 refine len ?_
 refine loopA [0, 5, 6, 15, 16, 17] [] [] (fun (i : Nat) => [.set 7 (I i)]) (fun (i : Nat) => []) (fun (i : Nat) => (i ≤ t.length) ∧ ((t.take i).all (inR · 0 99) = true)) (fun (i : Nat) => t.length - i) (0) (⟨Nat.zero_le _, rfl⟩) ?_
 refine ⟨hda, fun i hyp N1 hN1 => ?_⟩
 have hyp : (i ≤ t.length) ∧ ((t.take i).all (inR · 0 99) = true) := hyp
 have ha := all_dec hyp.2
 refine cnd (fun hb => ?_) (fun hb => ?_)
 ·first | refine ixm (by assumption) ?_ | refine bnd ?_ | refine bndi ?_ | refine ixkq (fun y9 hy9 qy9 ly9 => ?_) | refine ixiq (fun y9 hy9 qy9 ly9 => ?_)
  first | refine ixs ?_ | refine ixo (by assumption) ?_ | refine ixoq (fun z1 hz1 qz1 lz1 => ?_) | skip
  refine callP (impl_within_f _ _ _).k ?_
  refine cnd (fun hb2 => ?_) (fun hb2 => ?_)
  ·refine hN1 _ _ _ ?_
   exact resV (by first | (unfold pageOk; rw [ha.1 _ (by assumption) (by first | assumption | exact decide_eq_false (by omega) | exact decide_eq_true (by omega))]; rfl) | (unfold pageOk; rw [ha.2 (by omega)]; first | rfl | (simp; done) | (simp; rfl) | (rw [Value.bool.injEq, Bool.eq_iff_iff]; simp; omega)))
  ·refine rng ?_
   refine hN1 _ _ _ ?_
   refine nxa (i + 1) (⟨by omega, all_next hyp.2 (by assumption) (by first | assumption | exact decide_eq_false (by omega) | exact decide_eq_true (by omega))⟩)
 ·refine hN1 _ _ _ ?_
  refine len ?_
  exact resV (by first | (unfold pageOk; rw [ha.1 _ (by assumption) (by first | assumption | exact decide_eq_false (by omega) | exact decide_eq_true (by omega))]; rfl) | (unfold pageOk; rw [ha.2 (by omega)]; first | rfl | (simp; done) | (simp; rfl) | (rw [Value.bool.injEq, Bool.eq_iff_iff]; simp; omega)))
theorem impl_MemOk_f (m : List (List Int)) (pages : Int) : Fun Try.prog 57 [L 1 (m.map dIntS), I pages] (RV (.bool (memOk m pages))) := by
 refine Fun.w 21 Try.func57 fun w g0 hM => ?_
 have hl0 := hM.1.map
 refine len ?_
 refine loopA [0, 1, 7, 8, 17, 18, 19, 20] [] [] (fun (i : Nat) => [.set 9 (I i)]) (fun (i : Nat) => []) (fun (i : Nat) => (i ≤ m.length) ∧ ((m.take i).all pageOk = true)) (fun (i : Nat) => m.length - i) (0) (⟨Nat.zero_le _, rfl⟩) ?_
 refine ⟨hda, fun i hyp N1 hN1 => ?_⟩
 have hyp : (i ≤ m.length) ∧ ((m.take i).all pageOk = true) := hyp
 have ha := all_dec hyp.2
 refine cnd (fun hb => ?_) (fun hb => ?_)
 ·first | refine ixm (by assumption) ?_ | refine bnd ?_ | refine bndi ?_ | refine ixkq (fun y11 hy11 qy11 ly11 => ?_) | refine ixiq (fun y11 hy11 qy11 ly11 => ?_)
  first | refine ixs ?_ | refine ixo (by assumption) ?_ | refine ixoq (fun z1 hz1 qz1 lz1 => ?_) | skip
  refine callP (impl_PageOk_f _).k ?_
  refine cnd (fun hb2 => ?_) (fun hb2 => ?_)
  ·refine hN1 _ _ _ ?_
   exact resV (by first | (unfold memOk; rw [ha.1 _ (by assumption) (by first | assumption | exact decide_eq_false (by omega) | exact decide_eq_true (by omega))]; rfl) | (unfold memOk; rw [ha.2 (by omega)]; first | rfl | (simp; done) | (simp; rfl) | (rw [Value.bool.injEq, Bool.eq_iff_iff]; simp; omega)))
  ·refine rng ?_
   refine hN1 _ _ _ ?_
   refine nxa (i + 1) (⟨by omega, all_next hyp.2 (by assumption) (by first | assumption | exact decide_eq_false (by omega) | exact decide_eq_true (by omega))⟩)
 ·refine hN1 _ _ _ ?_
  refine len ?_
  exact resV (by first | (unfold memOk; rw [ha.1 _ (by assumption) (by first | assumption | exact decide_eq_false (by omega) | exact decide_eq_true (by omega))]; rfl) | (unfold memOk; rw [ha.2 (by omega)]; first | rfl | (simp; done) | (simp; rfl) | (rw [Value.bool.injEq, Bool.eq_iff_iff]; simp; omega)))
theorem impl_UsesOf_f (t : List VSlot) (page : Int) [Q (SmSlotS t)] : Fun Try.prog 74 [L 2 (t.map dSlot), I page] (RL 1 ((usesOf t page).map dInt)) := by
 refine Fun.w 26 Try.func74 fun w g0 hM => ?_
 have hl0 := hM.1.map
 refine len ?_
 refine loopA [1, 4, 5, 9, 10, 25] [5] [5] (fun (i : Nat) => [.set 11 (I i)]) (fun (i : Nat) => [(5, ⟨false, [.own (.sl 1 ((rangeF (usesB t page) i).map dInt))]⟩)]) (fun (i : Nat) => i ≤ t.length) (fun (i : Nat) => t.length - i) (0) (Nat.zero_le _) ?_
 refine ⟨hda, fun i hyp N1 hN1 => ?_⟩
 have hyp : i ≤ t.length := hyp
 have hr := @rangeF_len (usesB t page) i
 have ht := (inferInstance : LenX t 1048576).h
 refine cnd (fun hb => ?_) (fun hb => ?_)
 ·first | refine ixm (by assumption) ?_ | refine bnd ?_ | refine bndi ?_ | refine ixkq (fun y14 hy14 qy14 ly14 => ?_) | refine ixiq (fun y14 hy14 qy14 ly14 => ?_)
  first | refine ixs ?_ | refine ixo (by assumption) ?_ | refine ixoq (fun z1 hz1 qz1 lz1 => ?_) | skip
  refine cnd (fun hb2 => ?_) (fun hb2 => ?_)
  ·first | refine appPq ?_ | refine appP ?_
   refine rng ?_
   refine hN1 _ _ _ ?_
   refine nxa (i + 1) (by omega) (by repeat' first | exact rfl | refine And.intro ?_ ?_ | exact True.intro | (refine eqS ?_; simp [List.take_add_one, List.set_set, rangeF_succ, usesB, *]; done) | (refine eqS ?_; exact congrArg (fun z : Int => (I z : TS)) (by omega)))
  ·refine rng ?_
   refine hN1 _ _ _ ?_
   refine nxa (i + 1) (by omega) (by repeat' first | exact rfl | refine And.intro ?_ ?_ | exact True.intro | (refine eqS ?_; simp [List.take_add_one, List.set_set, rangeF_succ, usesB, *]; done) | (refine eqS ?_; exact congrArg (fun z : Int => (I z : TS)) (by omega)))
 ·refine hN1 _ _ _ ?_
  exact (by rw [show i = t.length by omega]; rfl)
theorem impl_copyInts_f (x : List Int) [Q (SmIntS x)] : Fun Try.prog 54 [L 1 (x.map dInt)] (RL 1 (x.map dInt)) := by
 refine Fun.w 6 Try.func54 fun w g0 _ => ?_
 first | refine appPq ?_ | refine appP ?_
 exact rfl
theorem impl_copyTable_f (x : List VSlot) [Q (SmSlotS x)] : Fun Try.prog 60 [L 2 (x.map dSlot)] (RL 2 (x.map dSlot)) := by
 refine Fun.w 6 Try.func60 fun w g0 _ => ?_
 first | refine appPq ?_ | refine appP ?_
 exact rfl
theorem impl_copyProg_f (x : List VIns) [Q (SmInsS x)] : Fun Try.prog 78 [L 2 (x.map dIns)] (RL 2 (x.map dIns)) := by
 refine Fun.w 6 Try.func78 fun w g0 _ => ?_
 first | refine appPq ?_ | refine appP ?_
 exact rfl
theorem impl_copyMem_f (m : List (List Int)) [Q (SmIntSS m)] : Fun Try.prog 30 [L 1 (m.map dIntS)] (RL 1 (m.map dIntS)) := by
 refine Fun.w 20 Try.func30 fun w g0 hM => ?_
 have hl0 := hM.1.map
 refine len ?_
 refine loopA [2, 3, 7, 8, 19] [3] [3] (fun (i : Nat) => [.set 9 (I i)]) (fun (i : Nat) => [(3, ⟨false, [.own (.sl 1 ((m.take i).map dIntS))]⟩)]) (fun (i : Nat) => i ≤ m.length) (fun (i : Nat) => m.length - i) (0) (Nat.zero_le _) ?_
 refine ⟨hda, fun i hyp N1 hN1 => ?_⟩
 have hyp : i ≤ m.length := hyp
 refine cnd (fun hb => ?_) (fun hb => ?_)
 ·first | refine ixm (by assumption) ?_ | refine bnd ?_ | refine bndi ?_ | refine ixkq (fun y11 hy11 qy11 ly11 => ?_) | refine ixiq (fun y11 hy11 qy11 ly11 => ?_)
  first | refine ixs ?_ | refine ixo (by assumption) ?_ | refine ixoq (fun z1 hz1 qz1 lz1 => ?_) | skip
  refine callL (impl_copyInts_f _).k ?_
  first | refine appOq ?_ | refine appO ?_
  refine rng ?_
  refine hN1 _ _ _ ?_
  refine nxa (i + 1) (by omega)
 ·refine hN1 _ _ _ ?_
  exact (by rw [List.take_of_length_le (by omega)]; rfl)
theorem spec_l04Has_f (m : List (List Int)) (p : Int) (c : Int) [Q (SmIntSS m)] : Fun Try.prog 32 [L 1 (m.map dIntS), I p, I c] (RV (.bool (hasCell m p c))) := by
 refine Fun.w 22 Try.func32 fun w g0 hM => ?_
 have hl0 := hM.1.map
 refine len ?_
 refine rng ?_
 refine callP (spec_l01In_f _ _ _).k ?_
 refine cnd (fun hg5 => ?_) (fun hg5 => ?_)
 ·first | refine ixm (by assumption) ?_ | refine bnd ?_ | refine bndi ?_ | refine ixkq (fun y16 hy16 qy16 ly16 => ?_) | refine ixiq (fun y16 hy16 qy16 ly16 => ?_)
  first | refine ixs ?_ | refine ixo (by assumption) ?_ | refine ixoq (fun z1 hz1 qz1 lz1 => ?_) | skip
  first | refine ixs ?_ | refine ixo (by assumption) ?_ | refine ixoq (fun z2 hz2 qz2 lz2 => ?_) | skip
  refine len ?_
  refine rng ?_
  refine callP (spec_l01In_f _ _ _).k ?_
  exact resV (by first | (rw [hasCell_no (by omega)]) | (rw [hasCell_in (by omega) (by assumption)]; refine congrArg Value.bool ?_; rw [Bool.eq_iff_iff]; simp; omega))
 ·exact resV (by first | (rw [hasCell_no (by omega)]) | (rw [hasCell_in (by omega) (by assumption)]; refine congrArg Value.bool ?_; rw [Bool.eq_iff_iff]; simp; omega))
theorem spec_CellAt_f (m : List (List Int)) (p : Int) (c : Int) [Q (SmIntSS m)] : Fun Try.prog 12 [L 1 (m.map dIntS), I p, I c] (RV (.int .i64 (cellAt m p c))) := by
 refine Fun.w 19 Try.func12 fun w g0 hM => ?_
 have hl0 := hM.1.map
 refine callP (spec_l04Has_f _ _ _).k ?_
 refine cnd (fun hb => ?_) (fun hb => ?_)
 ·exact resV (by first | (rw [cell_no (by assumption)]) | (rw [cell_in (by omega) (by assumption) (by omega) (by assumption)]) | (rw [cell_out (by omega)]) | (rw [cell_off (by omega) (by assumption) (by omega)]))
 ·obtain ⟨r, hp0, hr, hr2, hc0, hc1⟩ := hasCell_yes hb
  have hp1 := (List.getElem?_eq_some_iff.1 hr).1
  first | refine ixm (by assumption) ?_ | refine bnd ?_ | refine bndi ?_ | refine ixkq (fun y14 hy14 qy14 ly14 => ?_) | refine ixiq (fun y14 hy14 qy14 ly14 => ?_)
  first | refine ixs ?_ | refine ixo (by assumption) ?_ | refine ixoq (fun z1 hz1 qz1 lz1 => ?_) | skip
  first | refine ixs ?_ | refine ixo (by assumption) ?_ | refine ixoq (fun z2 hz2 qz2 lz2 => ?_) | skip
  first | refine ixm (by assumption) ?_ | refine bnd ?_ | refine bndi ?_ | refine ixkq (fun y17 hy17 qy17 ly17 => ?_) | refine ixiq (fun y17 hy17 qy17 ly17 => ?_)
  first | refine ixs ?_ | refine ixo (by assumption) ?_ | refine ixoq (fun z3 hz3 qz3 lz3 => ?_) | skip
  first | refine ixs ?_ | refine ixo (by assumption) ?_ | refine ixoq (fun z4 hz4 qz4 lz4 => ?_) | skip
  exact resV (by first | (rw [cell_no (by assumption)]) | (rw [cell_in (by omega) (by assumption) (by omega) (by assumption)]) | (rw [cell_out (by omega)]) | (rw [cell_off (by omega) (by assumption) (by omega)]))
end Go.Proofs.Ytcmoifejjodgcaa.T

namespace Go.Proofs.Ytcmoifejjodgcaa.T
open Go
set_option linter.unusedVariables false
set_option linter.unusedSimpArgs false
set_option maxRecDepth 100000
set_option maxHeartbeats 1000000
theorem withCell_no {m : List (List Int)} {p c v : Int} (h : hasCell m p c = false ∨ ¬ (0 ≤ v ∧ v ≤ 99)) : withCell m p c v = m := by
 unfold withCell
 unfold hasCell at h
 split
 ·rfl
 ·rename_i r hr
  rw [hr] at h
  split
  ·rename_i hv
   have hc : ¬ (0 ≤ c ∧ c < r.length) := by
    rcases h with h | h
    ·exact of_decide_eq_false h
    ·exact absurd (of_decide_eq_true hv) h
   rw [put_out hc]
   unfold at? at hr
   split at hr
   ·rename_i hp
    rw [put_in hp]
    obtain ⟨h1, h2⟩ := List.getElem?_eq_some_iff.1 hr
    rw [← h2, List.set_getElem_self]
   ·cases hr
  ·rfl
theorem withCell_yes {m : List (List Int)} {p c v : Int} {r : List Int} (h : 0 ≤ p) (hr : m[p.toNat]? = some r) (hc : 0 ≤ c) (hv : 0 ≤ v ∧ v ≤ 99) : withCell m p c v = m.set p.toNat (r.set c.toNat v) := by
 unfold withCell
 rw [at_in h hr]
 simp only
 rw [if_pos (decide_eq_true hv), put_in h, put_in hc]
theorem brought_in {n : Nat} (h : n ≤ 24) : brought n 0 24 = n := by unfold brought; rw [if_neg (by omega), if_neg (by omega)]
theorem withPage_no {m : List (List Int)} {p : Int} {cells : List Int} (h : ¬ (0 ≤ p ∧ p < m.length) ∨ pageOk cells = false) : withPage m p cells = m := by
 unfold withPage
 split
 ·rename_i hk
  rcases h with h | h
  ·exact put_out h
  ·rw [h] at hk; cases hk
 ·rfl
theorem withPage_yes {m : List (List Int)} {p : Int} {cells : List Int} (h : 0 ≤ p) (hk : pageOk cells = true) : withPage m p cells = m.set p.toNat cells := by unfold withPage; rw [if_pos hk, put_in h]
theorem impl_PageAt_f (m : List (List Int)) (n : Int) [Q (SmIntSS m)] : Fun Try.prog 41 [L 1 (m.map dIntS), I n] (RL 1 ((pageAt m n).map dInt)) := by
 refine Fun.w 16 Try.func41 fun w g0 hM => ?_
 have hl0 := hM.1.map
 refine len ?_
 refine callP (impl_has_f _ _).k ?_
 refine cnd (fun hb => ?_) (fun hb => ?_)
 ·refine mkw 4 ?_
  exact (by first | (rw [pageAt, at_out (by omega)]; rfl) | (rw [pageAt, at_in (by omega) (by assumption)]; rfl))
 ·first | refine ixm (by assumption) ?_ | refine bnd ?_ | refine bndi ?_ | refine ixkq (fun y13 hy13 qy13 ly13 => ?_) | refine ixiq (fun y13 hy13 qy13 ly13 => ?_)
  first | refine ixs ?_ | refine ixo (by assumption) ?_ | refine ixoq (fun z1 hz1 qz1 lz1 => ?_) | skip
  refine callL (impl_copyInts_f _).k ?_
  exact (by first | (rw [pageAt, at_out (by omega)]; rfl) | (rw [pageAt, at_in (by omega) (by assumption)]; rfl))
theorem spec_Brought_n {n : Nat} (h : n ≤ 24) : Fun Try.prog 34 [I n, I 0, I 24] (RV (.int .i64 n)) := by
 have h1 := spec_Brought_f n 0 24
 rwa [brought_in h] at h1
theorem spec_MemNew_f (n : Nat) (hn : n ≤ 24 := by omega) : Fun Try.prog 15 [I n] (RL 1 ((memNew n).map dIntS)) := by
 refine Fun.w 17 Try.func15 fun w g0 _ => ?_
 refine callP (spec_Brought_n hn).k ?_
 refine loopA [2, 3, 16] [3] [3] (fun (i : Nat) => [.set 4 (I ((n : Int) - i))]) (fun (i : Nat) => [(3, ⟨false, [.own (.sl 1 ((List.replicate i [0, 0, 0, 0]).map dIntS))]⟩)]) (fun (i : Nat) => i ≤ n) (fun (i : Nat) => n - i) (0) (Nat.zero_le _) ?_
 refine ⟨hda, fun i hyp N1 hN1 => ?_⟩
 have hyp : i ≤ n := hyp
 refine cnd (fun hb => ?_) (fun hb => ?_)
 ·refine mkw 4 ?_
  first | refine appOq ?_ | refine appO ?_
  refine rng ?_
  refine hN1 _ _ _ ?_
  refine nxa (i + 1) (by omega) (by repeat' first | exact rfl | refine And.intro ?_ ?_ | exact True.intro | (refine eqS ?_; simp [List.take_add_one, List.set_set, rangeF_succ, List.replicate_succ', *]; done) | (refine eqS ?_; exact congrArg (fun z : Int => (I z : TS)) (by omega)))
 ·refine hN1 _ _ _ ?_
  exact (by rw [show i = n by omega]; rfl)
theorem impl_Brought_n {n : Nat} (h : n ≤ 24) : Fun Try.prog 53 [I n, I 0, I 24] (RV (.int .i64 n)) := by
 have h1 := impl_Brought_f n 0 24
 rwa [brought_in h] at h1
end Go.Proofs.Ytcmoifejjodgcaa.T

