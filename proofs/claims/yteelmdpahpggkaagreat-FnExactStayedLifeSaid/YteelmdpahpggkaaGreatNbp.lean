
import Derived.Test.YteelmdpahpggkaaGreatNap
namespace Go.Proofs.YteelmdpahpggkaaGreat.T
open Go
set_option linter.unusedVariables false
set_option linter.unusedSimpArgs false
set_option maxRecDepth 100000
set_option maxHeartbeats 1000000
def hasCell (m : List (List Int)) (p c : Int) : Bool := match at? m p with | some r => decide (0 ≤ c ∧ c < r.length) | none => false
theorem hasCell_no {m : List (List Int)} {p c : Int} (h : ¬ (0 ≤ p ∧ p < m.length)) : hasCell m p c = false := by unfold hasCell; rw [at_out h]
theorem hasCell_in {m : List (List Int)} {p c : Int} {r : List Int} (h : 0 ≤ p) (hr : m[p.toNat]? = some r) : hasCell m p c = decide (0 ≤ c ∧ c < r.length) := by unfold hasCell; rw [at_in h hr]
theorem hasCell_yes {m : List (List Int)} {p c : Int} (h : hasCell m p c = true) : ∃ r, 0 ≤ p ∧ m[p.toNat]? = some r ∧ at? m p = some r ∧ 0 ≤ c ∧ c < r.length := by
 unfold hasCell at h
 split at h
 ·rename_i r hr
  have h0 := hr
  unfold at? at h0
  split at h0
  ·rename_i hp
   have := of_decide_eq_true h
   exact ⟨r, hp, h0, hr, this⟩
  ·cases h0
 ·cases h
theorem cell_no {m : List (List Int)} {p c : Int} (h : hasCell m p c = false) : cellAt m p c = 0 := by
 unfold hasCell at h
 unfold cellAt
 split at h
 ·rename_i r hr
  rw [hr]
  simp only [Option.bind_some]
  rw [at_out (of_decide_eq_false h)]
  rfl
 ·rename_i hr
  rw [hr]
  rfl
theorem cell_in {m : List (List Int)} {p c v : Int} {r : List Int} (h : 0 ≤ p) (hr : m[p.toNat]? = some r) (hc : 0 ≤ c) (hv : r[c.toNat]? = some v) : cellAt m p c = v := by
 unfold cellAt
 rw [at_in h hr]
 simp only [Option.bind_some]
 rw [at_in hc hv]
 rfl
theorem cell_out {m : List (List Int)} {p c : Int} (h : ¬ (0 ≤ p ∧ p < m.length)) : cellAt m p c = 0 := cell_no (hasCell_no h)
theorem cell_off {m : List (List Int)} {p c : Int} {r : List Int} (h : 0 ≤ p) (hr : m[p.toNat]? = some r) (hc : ¬ (0 ≤ c ∧ c < r.length)) : cellAt m p c = 0 := cell_no (by rw [hasCell_in h hr]; exact decide_eq_false hc)
theorem spec_TableOk_f (t : List VSlot) (size : Int) (pages : Int) [hp0 : Q (0 ≤ pages ∧ pages ≤ 1000)] : Fun Tryz.prog 194 [L 2 (t.map dSlot), I size, I pages] (RV (.bool (tableOk t size pages))) := by
 refine Fun.w 25 Tryz.func194 fun w g0 hM => ?_
 have hl0 := hM.1.map
 refine loopA [0, 1, 2, 21, 22, 23, 24] [] [] (fun (i : Nat) => [.set 7 (I i)]) (fun (i : Nat) => []) (fun (i : Nat) => (i ≤ t.length) ∧ ((t.take i).all (slotOk · pages) = true)) (fun (i : Nat) => t.length - i) (0) (⟨Nat.zero_le _, rfl⟩) ?_
 refine ⟨hda, fun i hyp N1 hN1 => ?_⟩
 have hyp : (i ≤ t.length) ∧ ((t.take i).all (slotOk · pages) = true) := hyp
 have ha := all_dec hyp.2
 refine len ?_
 refine cnd (fun hb => ?_) (fun hb => ?_)
 ·first | refine ixm (by assumption) ?_ | refine bnd ?_ | refine bndi ?_ | refine ixkq (fun y16 hy16 qy16 ly16 => ?_) | refine ixiq (fun y16 hy16 qy16 ly16 => ?_)
  first | refine ixs ?_ | refine ixo (by assumption) ?_ | refine ixoq (fun z1 hz1 qz1 lz1 => ?_) | skip
  refine callP (spec_SlotOk_f _ _).k ?_
  refine cnd (fun hb2 => ?_) (fun hb2 => ?_)
  ·refine hN1 _ _ _ ?_
   exact resV (by first | (unfold tableOk; rw [ha.1 _ (by assumption) (by first | assumption | exact decide_eq_false (by omega) | exact decide_eq_true (by omega))]; rfl) | (unfold tableOk; rw [ha.2 (by omega)]; first | rfl | (simp; done) | (simp; rfl) | (rw [Value.bool.injEq, Bool.eq_iff_iff]; simp; omega)))
  ·refine rng ?_
   refine hN1 _ _ _ ?_
   refine nxa (i + 1) (⟨by omega, all_next hyp.2 (by assumption) (by first | assumption | exact decide_eq_false (by omega) | exact decide_eq_true (by omega))⟩)
 ·refine hN1 _ _ _ ?_
  refine len ?_
  exact resV (by first | (unfold tableOk; rw [ha.1 _ (by assumption) (by first | assumption | exact decide_eq_false (by omega) | exact decide_eq_true (by omega))]; rfl) | (unfold tableOk; rw [ha.2 (by omega)]; first | rfl | (simp; done) | (simp; rfl) | (rw [Value.bool.injEq, Bool.eq_iff_iff]; simp; omega)))
theorem impl_TableOk_f (t : List VSlot) (size : Int) (pages : Int) [hp0 : Q (0 ≤ pages ∧ pages ≤ 1000)] : Fun Tryz.prog 206 [L 2 (t.map dSlot), I size, I pages] (RV (.bool (tableOk t size pages))) := by
 refine Fun.w 24 Tryz.func206 fun w g0 hM => ?_
 have hl0 := hM.1.map
 refine len ?_
 refine loopA [0, 1, 2, 9, 10, 20, 21, 22, 23] [] [] (fun (i : Nat) => [.set 11 (I i)]) (fun (i : Nat) => []) (fun (i : Nat) => (i ≤ t.length) ∧ ((t.take i).all (slotOk · pages) = true)) (fun (i : Nat) => t.length - i) (0) (⟨Nat.zero_le _, rfl⟩) ?_
 refine ⟨hda, fun i hyp N1 hN1 => ?_⟩
 have hyp : (i ≤ t.length) ∧ ((t.take i).all (slotOk · pages) = true) := hyp
 have ha := all_dec hyp.2
 refine cnd (fun hb => ?_) (fun hb => ?_)
 ·first | refine ixm (by assumption) ?_ | refine bnd ?_ | refine bndi ?_ | refine ixkq (fun y13 hy13 qy13 ly13 => ?_) | refine ixiq (fun y13 hy13 qy13 ly13 => ?_)
  first | refine ixs ?_ | refine ixo (by assumption) ?_ | refine ixoq (fun z1 hz1 qz1 lz1 => ?_) | skip
  refine callP (impl_SlotOk_f _ _).k ?_
  refine cnd (fun hb2 => ?_) (fun hb2 => ?_)
  ·refine hN1 _ _ _ ?_
   exact resV (by first | (unfold tableOk; rw [ha.1 _ (by assumption) (by first | assumption | exact decide_eq_false (by omega) | exact decide_eq_true (by omega))]; rfl) | (unfold tableOk; rw [ha.2 (by omega)]; first | rfl | (simp; done) | (simp; rfl) | (rw [Value.bool.injEq, Bool.eq_iff_iff]; simp; omega)))
  ·refine rng ?_
   refine hN1 _ _ _ ?_
   refine nxa (i + 1) (⟨by omega, all_next hyp.2 (by assumption) (by first | assumption | exact decide_eq_false (by omega) | exact decide_eq_true (by omega))⟩)
 ·refine hN1 _ _ _ ?_
  refine len ?_
  exact resV (by first | (unfold tableOk; rw [ha.1 _ (by assumption) (by first | assumption | exact decide_eq_false (by omega) | exact decide_eq_true (by omega))]; rfl) | (unfold tableOk; rw [ha.2 (by omega)]; first | rfl | (simp; done) | (simp; rfl) | (rw [Value.bool.injEq, Bool.eq_iff_iff]; simp; omega)))
theorem spec_PageOk_f (t : List Int) : Fun Tryz.prog 197 [L 1 (t.map dInt)] (RV (.bool (pageOk t))) := by
 refine Fun.w 19 Tryz.func197 fun w g0 hM => ?_
 have hl0 := hM.1.map
 refine loopA [0, 16, 17, 18] [] [] (fun (i : Nat) => [.set 3 (I i)]) (fun (i : Nat) => []) (fun (i : Nat) => (i ≤ t.length) ∧ ((t.take i).all (inR · 0 99) = true)) (fun (i : Nat) => t.length - i) (0) (⟨Nat.zero_le _, rfl⟩) ?_
 refine ⟨hda, fun i hyp N1 hN1 => ?_⟩
 have hyp : (i ≤ t.length) ∧ ((t.take i).all (inR · 0 99) = true) := hyp
 have ha := all_dec hyp.2
 refine len ?_
 refine cnd (fun hb => ?_) (fun hb => ?_)
 ·first | refine ixm (by assumption) ?_ | refine bnd ?_ | refine bndi ?_ | refine ixkq (fun y12 hy12 qy12 ly12 => ?_) | refine ixiq (fun y12 hy12 qy12 ly12 => ?_)
  first | refine ixs ?_ | refine ixo (by assumption) ?_ | refine ixoq (fun z1 hz1 qz1 lz1 => ?_) | skip
  refine callP (spec_l01In_f _ _ _).k ?_
  refine cnd (fun hb2 => ?_) (fun hb2 => ?_)
  ·refine hN1 _ _ _ ?_
   exact resV (by first | (unfold pageOk; rw [ha.1 _ (by assumption) (by first | assumption | exact decide_eq_false (by omega) | exact decide_eq_true (by omega))]; rfl) | (unfold pageOk; rw [ha.2 (by omega)]; first | rfl | (simp; done) | (simp; rfl) | (rw [Value.bool.injEq, Bool.eq_iff_iff]; simp; omega)))
  ·refine rng ?_
   refine hN1 _ _ _ ?_
   refine nxa (i + 1) (⟨by omega, all_next hyp.2 (by assumption) (by first | assumption | exact decide_eq_false (by omega) | exact decide_eq_true (by omega))⟩)
 ·refine hN1 _ _ _ ?_
  refine len ?_
  exact resV (by first | (unfold pageOk; rw [ha.1 _ (by assumption) (by first | assumption | exact decide_eq_false (by omega) | exact decide_eq_true (by omega))]; rfl) | (unfold pageOk; rw [ha.2 (by omega)]; first | rfl | (simp; done) | (simp; rfl) | (rw [Value.bool.injEq, Bool.eq_iff_iff]; simp; omega)))
theorem impl_PageOk_f (t : List Int) : Fun Tryz.prog 210 [L 1 (t.map dInt)] (RV (.bool (pageOk t))) := by
 refine Fun.w 18 Tryz.func210 fun w g0 hM => ?_
 have hl0 := hM.1.map
 refine len ?_
 refine loopA [0, 5, 6, 15, 16, 17] [] [] (fun (i : Nat) => [.set 7 (I i)]) (fun (i : Nat) => []) (fun (i : Nat) => (i ≤ t.length) ∧ ((t.take i).all (inR · 0 99) = true)) (fun (i : Nat) => t.length - i) (0) (⟨Nat.zero_le _, rfl⟩) ?_
 refine ⟨hda, fun i hyp N1 hN1 => ?_⟩
 have hyp : (i ≤ t.length) ∧ ((t.take i).all (inR · 0 99) = true) := hyp
 have ha := all_dec hyp.2
 refine cnd (fun hb => ?_) (fun hb => ?_)
 ·first | refine ixm (by assumption) ?_ | refine bnd ?_ | refine bndi ?_ | refine ixkq (fun y9 hy9 qy9 ly9 => ?_) | refine ixiq (fun y9 hy9 qy9 ly9 => ?_)
  first | refine ixs ?_ | refine ixo (by assumption) ?_ | refine ixoq (fun z1 hz1 qz1 lz1 => ?_) | skip
  refine callP (impl_within_f _ _ _).k ?_
  refine cnd (fun hb2 => ?_) (fun hb2 => ?_)
  ·refine hN1 _ _ _ ?_
   exact resV (by first | (unfold pageOk; rw [ha.1 _ (by assumption) (by first | assumption | exact decide_eq_false (by omega) | exact decide_eq_true (by omega))]; rfl) | (unfold pageOk; rw [ha.2 (by omega)]; first | rfl | (simp; done) | (simp; rfl) | (rw [Value.bool.injEq, Bool.eq_iff_iff]; simp; omega)))
  ·refine rng ?_
   refine hN1 _ _ _ ?_
   refine nxa (i + 1) (⟨by omega, all_next hyp.2 (by assumption) (by first | assumption | exact decide_eq_false (by omega) | exact decide_eq_true (by omega))⟩)
 ·refine hN1 _ _ _ ?_
  refine len ?_
  exact resV (by first | (unfold pageOk; rw [ha.1 _ (by assumption) (by first | assumption | exact decide_eq_false (by omega) | exact decide_eq_true (by omega))]; rfl) | (unfold pageOk; rw [ha.2 (by omega)]; first | rfl | (simp; done) | (simp; rfl) | (rw [Value.bool.injEq, Bool.eq_iff_iff]; simp; omega)))
theorem spec_MemOk_f (m : List (List Int)) (pages : Int) : Fun Tryz.prog 192 [L 1 (m.map dIntS), I pages] (RV (.bool (memOk m pages))) := by
 refine Fun.w 22 Tryz.func192 fun w g0 hM => ?_
 have hl0 := hM.1.map
 refine loopA [0, 1, 18, 19, 20, 21] [] [] (fun (i : Nat) => [.set 5 (I i)]) (fun (i : Nat) => []) (fun (i : Nat) => (i ≤ m.length) ∧ ((m.take i).all pageOk = true)) (fun (i : Nat) => m.length - i) (0) (⟨Nat.zero_le _, rfl⟩) ?_
 refine ⟨hda, fun i hyp N1 hN1 => ?_⟩
 have hyp : (i ≤ m.length) ∧ ((m.take i).all pageOk = true) := hyp
 have ha := all_dec hyp.2
 refine len ?_
 refine cnd (fun hb => ?_) (fun hb => ?_)
 ·first | refine ixm (by assumption) ?_ | refine bnd ?_ | refine bndi ?_ | refine ixkq (fun y14 hy14 qy14 ly14 => ?_) | refine ixiq (fun y14 hy14 qy14 ly14 => ?_)
  first | refine ixs ?_ | refine ixo (by assumption) ?_ | refine ixoq (fun z1 hz1 qz1 lz1 => ?_) | skip
  refine callP (spec_PageOk_f _).k ?_
  refine cnd (fun hb2 => ?_) (fun hb2 => ?_)
  ·refine hN1 _ _ _ ?_
   exact resV (by first | (unfold memOk; rw [ha.1 _ (by assumption) (by first | assumption | exact decide_eq_false (by omega) | exact decide_eq_true (by omega))]; rfl) | (unfold memOk; rw [ha.2 (by omega)]; first | rfl | (simp; done) | (simp; rfl) | (rw [Value.bool.injEq, Bool.eq_iff_iff]; simp; omega)))
  ·refine rng ?_
   refine hN1 _ _ _ ?_
   refine nxa (i + 1) (⟨by omega, all_next hyp.2 (by assumption) (by first | assumption | exact decide_eq_false (by omega) | exact decide_eq_true (by omega))⟩)
 ·refine hN1 _ _ _ ?_
  refine len ?_
  exact resV (by first | (unfold memOk; rw [ha.1 _ (by assumption) (by first | assumption | exact decide_eq_false (by omega) | exact decide_eq_true (by omega))]; rfl) | (unfold memOk; rw [ha.2 (by omega)]; first | rfl | (simp; done) | (simp; rfl) | (rw [Value.bool.injEq, Bool.eq_iff_iff]; simp; omega)))
theorem impl_MemOk_f (m : List (List Int)) (pages : Int) : Fun Tryz.prog 204 [L 1 (m.map dIntS), I pages] (RV (.bool (memOk m pages))) := by
 refine Fun.w 21 Tryz.func204 fun w g0 hM => ?_
 have hl0 := hM.1.map
 refine len ?_
 refine loopA [0, 1, 7, 8, 17, 18, 19, 20] [] [] (fun (i : Nat) => [.set 9 (I i)]) (fun (i : Nat) => []) (fun (i : Nat) => (i ≤ m.length) ∧ ((m.take i).all pageOk = true)) (fun (i : Nat) => m.length - i) (0) (⟨Nat.zero_le _, rfl⟩) ?_
 refine ⟨hda, fun i hyp N1 hN1 => ?_⟩
 have hyp : (i ≤ m.length) ∧ ((m.take i).all pageOk = true) := hyp
 have ha := all_dec hyp.2
 refine cnd (fun hb => ?_) (fun hb => ?_)
 ·first | refine ixm (by assumption) ?_ | refine bnd ?_ | refine bndi ?_ | refine ixkq (fun y11 hy11 qy11 ly11 => ?_) | refine ixiq (fun y11 hy11 qy11 ly11 => ?_)
  first | refine ixs ?_ | refine ixo (by assumption) ?_ | refine ixoq (fun z1 hz1 qz1 lz1 => ?_) | skip
  refine callP (impl_PageOk_f _).k ?_
  refine cnd (fun hb2 => ?_) (fun hb2 => ?_)
  ·refine hN1 _ _ _ ?_
   exact resV (by first | (unfold memOk; rw [ha.1 _ (by assumption) (by first | assumption | exact decide_eq_false (by omega) | exact decide_eq_true (by omega))]; rfl) | (unfold memOk; rw [ha.2 (by omega)]; first | rfl | (simp; done) | (simp; rfl) | (rw [Value.bool.injEq, Bool.eq_iff_iff]; simp; omega)))
  ·refine rng ?_
   refine hN1 _ _ _ ?_
   refine nxa (i + 1) (⟨by omega, all_next hyp.2 (by assumption) (by first | assumption | exact decide_eq_false (by omega) | exact decide_eq_true (by omega))⟩)
 ·refine hN1 _ _ _ ?_
  refine len ?_
  exact resV (by first | (unfold memOk; rw [ha.1 _ (by assumption) (by first | assumption | exact decide_eq_false (by omega) | exact decide_eq_true (by omega))]; rfl) | (unfold memOk; rw [ha.2 (by omega)]; first | rfl | (simp; done) | (simp; rfl) | (rw [Value.bool.injEq, Bool.eq_iff_iff]; simp; omega)))
theorem impl_copyInts_f (x : List Int) [Q (SmIntS x)] : Fun Tryz.prog 83 [L 1 (x.map dInt)] (RL 1 (x.map dInt)) := by
 refine Fun.w 6 Tryz.func83 fun w g0 _ => ?_
 first | refine appPq ?_ | refine appP ?_
 exact rfl
theorem impl_copyTable_f (x : List VSlot) [Q (SmSlotS x)] : Fun Tryz.prog 212 [L 2 (x.map dSlot)] (RL 2 (x.map dSlot)) := by
 refine Fun.w 6 Tryz.func212 fun w g0 _ => ?_
 first | refine appPq ?_ | refine appP ?_
 exact rfl
theorem impl_copyProg_f (x : List VIns) [Q (SmInsS x)] : Fun Tryz.prog 289 [L 2 (x.map dIns)] (RL 2 (x.map dIns)) := by
 refine Fun.w 6 Tryz.func289 fun w g0 _ => ?_
 first | refine appPq ?_ | refine appP ?_
 exact rfl
theorem spec_l04Copy_f (m : List (List Int)) [Q (SmIntSS m)] : Fun Tryz.prog 127 [L 1 (m.map dIntS)] (RL 1 (m.map dIntS)) := by
 refine Fun.w 22 Tryz.func127 fun w g0 hM => ?_
 have hl0 := hM.1.map
 refine loopA [0, 2, 3, 21] [3] [3] (fun (i : Nat) => [.set 4 (I i)]) (fun (i : Nat) => [(3, ⟨false, [.own (.sl 1 ((m.take i).map dIntS))]⟩)]) (fun (i : Nat) => i ≤ m.length) (fun (i : Nat) => m.length - i) (0) (Nat.zero_le _) ?_
 refine ⟨hda, fun i hyp N1 hN1 => ?_⟩
 have hyp : i ≤ m.length := hyp
 refine len ?_
 refine cnd (fun hb => ?_) (fun hb => ?_)
 ·first | refine ixm (by assumption) ?_ | refine bnd ?_ | refine bndi ?_ | refine ixkq (fun y16 hy16 qy16 ly16 => ?_) | refine ixiq (fun y16 hy16 qy16 ly16 => ?_)
  first | refine ixs ?_ | refine ixo (by assumption) ?_ | refine ixoq (fun z1 hz1 qz1 lz1 => ?_) | skip
  first | refine appPq ?_ | refine appP ?_
  first | refine appOq ?_ | refine appO ?_
  refine rng ?_
  refine hN1 _ _ _ ?_
  refine nxa (i + 1) (by omega)
 ·refine hN1 _ _ _ ?_
  exact (by rw [List.take_of_length_le (by omega)]; rfl)
theorem impl_copyMem_f (m : List (List Int)) [Q (SmIntSS m)] : Fun Tryz.prog 81 [L 1 (m.map dIntS)] (RL 1 (m.map dIntS)) := by
 refine Fun.w 20 Tryz.func81 fun w g0 hM => ?_
 have hl0 := hM.1.map
 refine len ?_
 refine loopA [2, 3, 7, 8, 19] [3] [3] (fun (i : Nat) => [.set 9 (I i)]) (fun (i : Nat) => [(3, ⟨false, [.own (.sl 1 ((m.take i).map dIntS))]⟩)]) (fun (i : Nat) => i ≤ m.length) (fun (i : Nat) => m.length - i) (0) (Nat.zero_le _) ?_
 refine ⟨hda, fun i hyp N1 hN1 => ?_⟩
 have hyp : i ≤ m.length := hyp
 refine cnd (fun hb => ?_) (fun hb => ?_)
 ·first | refine ixm (by assumption) ?_ | refine bnd ?_ | refine bndi ?_ | refine ixkq (fun y11 hy11 qy11 ly11 => ?_) | refine ixiq (fun y11 hy11 qy11 ly11 => ?_)
  first | refine ixs ?_ | refine ixo (by assumption) ?_ | refine ixoq (fun z1 hz1 qz1 lz1 => ?_) | skip
  refine callL (impl_copyInts_f _).k ?_
  first | refine appOq ?_ | refine appO ?_
  refine rng ?_
  refine hN1 _ _ _ ?_
  refine nxa (i + 1) (by omega)
 ·refine hN1 _ _ _ ?_
  exact (by rw [List.take_of_length_le (by omega)]; rfl)
theorem spec_l04Has_f (m : List (List Int)) (p : Int) (c : Int) [Q (SmIntSS m)] : Fun Tryz.prog 408 [L 1 (m.map dIntS), I p, I c] (RV (.bool (hasCell m p c))) := by
 refine Fun.w 22 Tryz.func408 fun w g0 hM => ?_
 have hl0 := hM.1.map
 refine len ?_
 refine rng ?_
 refine callP (spec_l01In_f _ _ _).k ?_
 refine cnd (fun hg5 => ?_) (fun hg5 => ?_)
 ·first | refine ixm (by assumption) ?_ | refine bnd ?_ | refine bndi ?_ | refine ixkq (fun y16 hy16 qy16 ly16 => ?_) | refine ixiq (fun y16 hy16 qy16 ly16 => ?_)
  first | refine ixs ?_ | refine ixo (by assumption) ?_ | refine ixoq (fun z1 hz1 qz1 lz1 => ?_) | skip
  first | refine ixs ?_ | refine ixo (by assumption) ?_ | refine ixoq (fun z2 hz2 qz2 lz2 => ?_) | skip
  refine len ?_
  refine rng ?_
  refine callP (spec_l01In_f _ _ _).k ?_
  exact resV (by first | (rw [hasCell_no (by omega)]) | (rw [hasCell_in (by omega) (by assumption)]; refine congrArg Value.bool ?_; rw [Bool.eq_iff_iff]; simp; omega))
 ·exact resV (by first | (rw [hasCell_no (by omega)]) | (rw [hasCell_in (by omega) (by assumption)]; refine congrArg Value.bool ?_; rw [Bool.eq_iff_iff]; simp; omega))
theorem spec_CellAt_f (m : List (List Int)) (p : Int) (c : Int) [Q (SmIntSS m)] : Fun Tryz.prog 324 [L 1 (m.map dIntS), I p, I c] (RV (.int .i64 (cellAt m p c))) := by
 refine Fun.w 19 Tryz.func324 fun w g0 hM => ?_
 have hl0 := hM.1.map
 refine callP (spec_l04Has_f _ _ _).k ?_
 refine cnd (fun hb => ?_) (fun hb => ?_)
 ·exact resV (by first | (rw [cell_no (by assumption)]) | (rw [cell_in (by omega) (by assumption) (by omega) (by assumption)]) | (rw [cell_out (by omega)]) | (rw [cell_off (by omega) (by assumption) (by omega)]))
 ·obtain ⟨r, hp0, hr, hr2, hc0, hc1⟩ := hasCell_yes hb
  have hp1 := (List.getElem?_eq_some_iff.1 hr).1
  first | refine ixm (by assumption) ?_ | refine bnd ?_ | refine bndi ?_ | refine ixkq (fun y14 hy14 qy14 ly14 => ?_) | refine ixiq (fun y14 hy14 qy14 ly14 => ?_)
  first | refine ixs ?_ | refine ixo (by assumption) ?_ | refine ixoq (fun z1 hz1 qz1 lz1 => ?_) | skip
  first | refine ixs ?_ | refine ixo (by assumption) ?_ | refine ixoq (fun z2 hz2 qz2 lz2 => ?_) | skip
  first | refine ixm (by assumption) ?_ | refine bnd ?_ | refine bndi ?_ | refine ixkq (fun y17 hy17 qy17 ly17 => ?_) | refine ixiq (fun y17 hy17 qy17 ly17 => ?_)
  first | refine ixs ?_ | refine ixo (by assumption) ?_ | refine ixoq (fun z3 hz3 qz3 lz3 => ?_) | skip
  first | refine ixs ?_ | refine ixo (by assumption) ?_ | refine ixoq (fun z4 hz4 qz4 lz4 => ?_) | skip
  exact resV (by first | (rw [cell_no (by assumption)]) | (rw [cell_in (by omega) (by assumption) (by omega) (by assumption)]) | (rw [cell_out (by omega)]) | (rw [cell_off (by omega) (by assumption) (by omega)]))
theorem impl_CellAt_f (m : List (List Int)) (p : Int) (c : Int) [Q (SmIntSS m)] : Fun Tryz.prog 374 [L 1 (m.map dIntS), I p, I c] (RV (.int .i64 (cellAt m p c))) := by
 refine Fun.w 29 Tryz.func374 fun w g0 hM => ?_
 have hl0 := hM.1.map
 refine len ?_
 refine callP (impl_has_f _ _).k ?_
 refine cnd (fun hg5 => ?_) (fun hg5 => ?_)
 ·exact resV (by first | (rw [cell_no (by assumption)]) | (rw [cell_in (by omega) (by assumption) (by omega) (by assumption)]) | (rw [cell_out (by omega)]) | (rw [cell_off (by omega) (by assumption) (by omega)]))
 ·first | refine ixm (by assumption) ?_ | refine bnd ?_ | refine bndi ?_ | refine ixkq (fun y16 hy16 qy16 ly16 => ?_) | refine ixiq (fun y16 hy16 qy16 ly16 => ?_)
  first | refine ixs ?_ | refine ixo (by assumption) ?_ | refine ixoq (fun z1 hz1 qz1 lz1 => ?_) | skip
  first | refine ixs ?_ | refine ixo (by assumption) ?_ | refine ixoq (fun z2 hz2 qz2 lz2 => ?_) | skip
  refine len ?_
  refine callP (impl_has_f _ _).k ?_
  refine cnd (fun hb => ?_) (fun hb => ?_)
  ·exact resV (by first | (rw [cell_no (by assumption)]) | (rw [cell_in (by omega) (by assumption) (by omega) (by assumption)]) | (rw [cell_out (by omega)]) | (rw [cell_off (by omega) (by assumption) (by omega)]))
  ·first | refine ixm (by assumption) ?_ | refine bnd ?_ | refine bndi ?_ | refine ixkq (fun y24 hy24 qy24 ly24 => ?_) | refine ixiq (fun y24 hy24 qy24 ly24 => ?_)
   first | refine ixs ?_ | refine ixo (by assumption) ?_ | refine ixoq (fun z3 hz3 qz3 lz3 => ?_) | skip
   first | refine ixs ?_ | refine ixo (by assumption) ?_ | refine ixoq (fun z4 hz4 qz4 lz4 => ?_) | skip
   first | refine ixm (by assumption) ?_ | refine bnd ?_ | refine bndi ?_ | refine ixkq (fun y27 hy27 qy27 ly27 => ?_) | refine ixiq (fun y27 hy27 qy27 ly27 => ?_)
   first | refine ixs ?_ | refine ixo (by assumption) ?_ | refine ixoq (fun z5 hz5 qz5 lz5 => ?_) | skip
   first | refine ixs ?_ | refine ixo (by assumption) ?_ | refine ixoq (fun z6 hz6 qz6 lz6 => ?_) | skip
   exact resV (by first | (rw [cell_no (by assumption)]) | (rw [cell_in (by omega) (by assumption) (by omega) (by assumption)]) | (rw [cell_out (by omega)]) | (rw [cell_off (by omega) (by assumption) (by omega)]))
end Go.Proofs.YteelmdpahpggkaaGreat.T

