
import Derived.Test.YteelmdpahpggkaaGreatNsp
namespace Go.Proofs.YteelmdpahpggkaaGreat.T
open Go
set_option linter.unusedVariables false
set_option linter.unusedSimpArgs false
set_option maxRecDepth 100000
set_option maxHeartbeats 8000000
theorem flush_step {b : List VEntry} {host : Int} {i : Nat} {y : VEntry} (hy : b[i]? = some y) : flushHost (b.take (i + 1)) host = flushHost (b.take i) host ++ if y.Host = host then [] else [y] := by
 unfold flushHost
 rw [List.take_add_one, hy, List.filter_append]
 by_cases h : y.Host = host <;> simp [h]
theorem flush_len {b : List VEntry} {host : Int} : (flushHost b host).length ≤ b.length := List.length_filter_le _ _
theorem flush_yes {b : List VEntry} {host : Int} {i : Nat} {y : VEntry} (hy : b[i]? = some y) (h : ¬ y.Host = host) : (flushHost (b.take (i + 1)) host).map dEntry = (flushHost (b.take i) host).map dEntry ++ [dEntry y] := by rw [flush_step hy, if_neg h, List.map_append]; rfl
theorem flush_no {b : List VEntry} {host : Int} {i : Nat} {y : VEntry} (hy : b[i]? = some y) (h : y.Host = host) : (flushHost (b.take (i + 1)) host).map dEntry = (flushHost (b.take i) host).map dEntry := by rw [flush_step hy, if_pos h, List.append_nil]
theorem forget_in {k : VKept} {page : Int} (h : 0 ≤ page ∧ page < k.Known.length ∧ page < k.Slots.length) : forget k page = ⟨k.Known.set page.toNat false, k.Slots.set page.toNat noSlot⟩ := by
 unfold forget keptHas put
 rw [decide_eq_true h, if_pos rfl, if_pos h.1, if_pos h.1]
theorem forget_out {k : VKept} {page : Int} (h : ¬ (0 ≤ page ∧ page < k.Known.length ∧ page < k.Slots.length)) : forget k page = k := by
 unfold forget keptHas
 rw [decide_eq_false h]
 rfl
theorem forget_sm {k : VKept} (page : Int) (h : SmKept k) : SmKept (forget k page) := by
 by_cases hh : 0 ≤ page ∧ page < k.Known.length ∧ page < k.Slots.length
 ·rw [forget_in hh]
  exact ⟨by show (k.Known.set _ _).length ≤ _; rw [List.length_set]; exact h.1, by show (k.Slots.set _ _).length ≤ _; rw [List.length_set]; exact h.2⟩
 ·rw [forget_out hh]; exact h
def lessBy (k : VKept) (l : List Int) : VKept := l.foldl forget k
theorem lessBy_sm : ∀ (l : List Int) {k : VKept}, SmKept k → SmKept (lessBy k l)
 | [], k, h => h
 | p :: l, k, h => lessBy_sm l (forget_sm p h)
instance (k : VKept) (l : List Int) [h : Q (SmKept k)] : Q (SmKept (lessBy k l)) := ⟨lessBy_sm l h.h⟩
theorem lessBy_step {k : VKept} {l : List Int} {i : Nat} {p : Int} (hp : l[i]? = some p) : lessBy k (l.take (i + 1)) = forget (lessBy k (l.take i)) p := by
 unfold lessBy
 rw [List.take_add_one, hp, List.foldl_append]
 rfl
theorem uses_len (t : List VSlot) (page : Int) : (usesOf t page).length ≤ t.length := rangeF_len
theorem hasMon_on {h : VHost} {m : Int} : hasMon h m = true ↔ hostOk h = true ∧ 0 ≤ m ∧ m < h.Mons.length := by simp [hasMon]
theorem hasPage_on {h : VHost} {m p : Int} : hasPage h m p = true ↔ hostOk h = true ∧ (0 ≤ m ∧ m < h.Mons.length) ∧ 0 ≤ p ∧ p ≤ 7 := by simp [hasPage, and_assoc]
theorem spec_FlushHost_f (b : List VEntry) (host : Int) [Q (SmEntryS b)] : Fun Tryz.prog 306 [L 4 (b.map dEntry), I host] (RL 4 ((flushHost b host).map dEntry)) := by
 refine Fun.w 29 Tryz.func306 fun w g0 hM => ?_
 have hl0 := hM.1.map
 refine loopA [0, 1, 4, 5] [5] [5] (fun (i : Nat) => [.set 6 (I i)]) (fun (i : Nat) => [(5, ⟨false, [.own (.sl 4 ((flushHost (b.take i) host).map dEntry))]⟩)]) (fun (i : Nat) => i ≤ b.length) (fun (i : Nat) => b.length - i) (0) (Nat.zero_le _) ?_
 refine ⟨hda, fun i hyp N1 hN1 => ?_⟩
 have hyp : i ≤ b.length := hyp
 have hfl := @flush_len (b.take i) host
 have htl : (b.take i).length ≤ b.length := by rw [List.length_take]; omega
 have hbl := (inferInstance : LenX b 1048576).h
 refine len ?_
 refine cnd (fun hb => ?_) (fun hb => ?_)
 ·obtain ⟨y, hy⟩ : ∃ y, b[i]? = some y := ⟨_, List.getElem?_eq_getElem (by omega)⟩
  refine ixm hy ?_
  first | refine ixs ?_ | refine ixo (by assumption) ?_ | refine ixoq (fun z1 hz1 qz1 lz1 => ?_) | skip
  refine cnd (fun hb2 => ?_) (fun hb2 => ?_)
  ·refine ixm hy ?_
   first | refine ixs ?_ | refine ixo (by assumption) ?_ | refine ixoq (fun z2 hz2 qz2 lz2 => ?_) | skip
   first | refine appPq ?_ | refine appP ?_
   refine rng ?_
   refine hN1 _ _ _ ?_
   refine nxa (i + 1) (by omega) (by repeat' first | exact rfl | refine And.intro ?_ ?_ | exact True.intro | (refine eqS ?_; rw [flush_yes hy (by omega)]; done) | (refine eqS ?_; rw [flush_no hy (by omega)]; done))
  ·refine rng ?_
   refine hN1 _ _ _ ?_
   refine nxa (i + 1) (by omega) (by repeat' first | exact rfl | refine And.intro ?_ ?_ | exact True.intro | (refine eqS ?_; rw [flush_yes hy (by omega)]; done) | (refine eqS ?_; rw [flush_no hy (by omega)]; done))
 ·refine hN1 _ _ _ ?_
  exact (by rw [List.take_of_length_le (by omega)]; rfl)
theorem impl_FlushHost1_f (e : VEntry) (host : Int) : Fun Tryz.prog 404 [A (rEntry e), .one (.cptr [.v (.int .i64 host)])] (RV (.bool (decide (e.Host = host)))) := by
 refine Fun.w 8 Tryz.func404 fun w g0 _ => ?_
 exact resV (by first | rfl | (refine congrArg Value.bool ?_; rw [Bool.eq_iff_iff]; simp))
theorem impl_withoutHost_f (b : List VEntry) (host : Int) [Q (SmEntryS b)] : Fun Tryz.prog 403 [L 4 (b.map dEntry), .fn 404 [.cptr [.v (.int .i64 host)]]] (RL 4 ((flushHost b host).map dEntry)) := by
 refine Fun.w 25 Tryz.func403 fun w g0 hM => ?_
 have hl0 := hM.1.map
 refine len ?_
 refine loopA [1, 4, 5, 9, 10] [5] [5] (fun (i : Nat) => [.set 11 (I i)]) (fun (i : Nat) => [(5, ⟨false, [.own (.sl 4 ((flushHost (b.take i) host).map dEntry))]⟩)]) (fun (i : Nat) => i ≤ b.length) (fun (i : Nat) => b.length - i) (0) (Nat.zero_le _) ?_
 refine ⟨hda, fun i hyp N1 hN1 => ?_⟩
 have hyp : i ≤ b.length := hyp
 have hfl := @flush_len (b.take i) host
 have htl : (b.take i).length ≤ b.length := by rw [List.length_take]; omega
 have hbl := (inferInstance : LenX b 1048576).h
 refine cnd (fun hb => ?_) (fun hb => ?_)
 ·obtain ⟨y, hy⟩ : ∃ y, b[i]? = some y := ⟨_, List.getElem?_eq_getElem (by omega)⟩
  refine ixm hy ?_
  first | refine ixs ?_ | refine ixo (by assumption) ?_ | refine ixoq (fun z1 hz1 qz1 lz1 => ?_) | skip
  refine callCP (impl_FlushHost1_f y host).k ?_
  refine cnd (fun hb2 => ?_) (fun hb2 => ?_)
  ·first | refine appPq ?_ | refine appP ?_
   refine rng ?_
   refine hN1 _ _ _ ?_
   refine nxa (i + 1) (by omega) (by repeat' first | exact rfl | refine And.intro ?_ ?_ | exact True.intro | (refine eqS ?_; rw [flush_yes hy (by omega)]; done) | (refine eqS ?_; rw [flush_no hy (by omega)]; done))
  ·refine rng ?_
   refine hN1 _ _ _ ?_
   refine nxa (i + 1) (by omega) (by repeat' first | exact rfl | refine And.intro ?_ ?_ | exact True.intro | (refine eqS ?_; rw [flush_yes hy (by omega)]; done) | (refine eqS ?_; rw [flush_no hy (by omega)]; done))
 ·refine hN1 _ _ _ ?_
  exact (by rw [List.take_of_length_le (by omega)]; rfl)
theorem impl_FlushHost_f (b : List VEntry) (host : Int) [Q (SmEntryS b)] : Fun Tryz.prog 308 [L 4 (b.map dEntry), I host] (RL 4 ((flushHost b host).map dEntry)) := by
 refine Fun.w 8 Tryz.func308 fun w g0 _ => ?_
 refine callL (impl_withoutHost_f b host).k ?_
 exact rfl
theorem spec_l07Has_f (k : VKept) (page : Int) : Fun Tryz.prog 443 [A (rKept k), I page] (RV (.bool (keptHas k page))) := by
 refine Fun.w 18 Tryz.func443 fun w g0 hM => ?_
 have hl0 := hM.1.1.map
 have hl1 := hM.1.2.1.map
 refine len ?_
 refine rng ?_
 refine callP (spec_l01In_f _ _ _).k ?_
 refine cnd (fun hg6 => ?_) (fun hg6 => ?_)
 ·refine len ?_
  exact resV (by first | (refine congrArg Value.bool ?_; rw [Bool.eq_iff_iff]; simp [keptHas]; omega))
 ·exact resV (by first | (refine congrArg Value.bool ?_; rw [Bool.eq_iff_iff]; simp [keptHas]; omega))
theorem impl_Forget_f (k : VKept) (page : Int) [Q (SmKept k)] : Fun Tryz.prog 380 [A (rKept k), I page] (RG [.a (rKept (forget k page))]) := by
 refine Fun.w 30 Tryz.func380 fun w g0 hM => ?_
 have hl0 := hM.1.1.map
 have hl1 := hM.1.2.1.map
 refine callG (impl_copyKept_f _).k ?_
 refine len ?_
 refine callP (impl_has_f _ _).k ?_
 refine cnd (fun hg5 => ?_) (fun hg5 => ?_)
 ·refine len ?_
  refine callP (impl_has_f _ _).k ?_
  refine cnd (fun hb => ?_) (fun hb => ?_)
  ·obtain ⟨a, ha⟩ : ∃ a, k.Known[page.toNat]? = some a := ⟨_, List.getElem?_eq_getElem (by omega)⟩
   obtain ⟨z, hz⟩ : ∃ z, k.Slots[page.toNat]? = some z := ⟨_, List.getElem?_eq_getElem (by omega)⟩
   first | refine ixm (by assumption) ?_ | refine bnd ?_ | refine bndi ?_ | refine ixkq (fun y23 hy23 qy23 ly23 => ?_) | refine ixiq (fun y23 hy23 qy23 ly23 => ?_)
   first | refine ixs ?_ | refine ixo (by assumption) ?_ | refine ixoq (fun z1 hz1 qz1 lz1 => ?_) | skip
   refine regU [5] [(0, 0), (1, 0), (2, 0), (3, 1), (4, 0), (5, 1)] ?_
   refine callP (impl_NoSlot_f).k ?_
   first | refine ixm (by assumption) ?_ | refine bnd ?_ | refine bndi ?_ | refine ixkq (fun y28 hy28 qy28 ly28 => ?_) | refine ixiq (fun y28 hy28 qy28 ly28 => ?_)
   first | refine ixs ?_ | refine ixo (by assumption) ?_ | refine ixoq (fun z2 hz2 qz2 lz2 => ?_) | skip
   exact (by first | (rw [forget_out (by omega)]; rfl) | (rw [forget_in (by omega), show rKept ⟨k.Known.set page.toNat false, k.Slots.set page.toNat noSlot⟩ = [.sl 1 ((k.Known.map dBool).set page.toNat (dBool false)), .sl 2 ((k.Slots.map dSlot).set page.toNat (dSlot noSlot))] from by simp [rKept, List.map_set]]; rfl))
  ·exact (by first | (rw [forget_out (by omega)]; rfl) | (rw [forget_in (by omega), show rKept ⟨k.Known.set page.toNat false, k.Slots.set page.toNat noSlot⟩ = [.sl 1 ((k.Known.map dBool).set page.toNat (dBool false)), .sl 2 ((k.Slots.map dSlot).set page.toNat (dSlot noSlot))] from by simp [rKept, List.map_set]]; rfl))
 ·exact (by first | (rw [forget_out (by omega)]; rfl) | (rw [forget_in (by omega), show rKept ⟨k.Known.set page.toNat false, k.Slots.set page.toNat noSlot⟩ = [.sl 1 ((k.Known.map dBool).set page.toNat (dBool false)), .sl 2 ((k.Slots.map dSlot).set page.toNat (dSlot noSlot))] from by simp [rKept, List.map_set]]; rfl))
theorem spec_Forget_f (k : VKept) (page : Int) [Q (SmKept k)] : Fun Tryz.prog 358 [A (rKept k), I page] (RG [.a (rKept (forget k page))]) := by
 refine Fun.w 20 Tryz.func358 fun w g0 hM => ?_
 have hl0 := hM.1.1.map
 have hl1 := hM.1.2.1.map
 refine callG (spec_l07Copy_f _).k ?_
 refine callP (spec_l07Has_f _ _).k ?_
 refine cnd (fun hb => ?_) (fun hb => ?_)
 ·have hkp : 0 ≤ page ∧ page < k.Known.length ∧ page < k.Slots.length := by simpa [keptHas] using (by assumption : keptHas k page = true)
  obtain ⟨a, ha⟩ : ∃ a, k.Known[page.toNat]? = some a := ⟨_, List.getElem?_eq_getElem (by omega)⟩
  obtain ⟨z, hz⟩ : ∃ z, k.Slots[page.toNat]? = some z := ⟨_, List.getElem?_eq_getElem (by omega)⟩
  first | refine ixm (by assumption) ?_ | refine bnd ?_ | refine bndi ?_ | refine ixkq (fun y13 hy13 qy13 ly13 => ?_) | refine ixiq (fun y13 hy13 qy13 ly13 => ?_)
  first | refine ixs ?_ | refine ixo (by assumption) ?_ | refine ixoq (fun z1 hz1 qz1 lz1 => ?_) | skip
  refine regU [5] [(0, 0), (1, 0), (2, 0), (3, 1), (4, 0), (5, 1)] ?_
  refine callP (spec_NoSlot_f).k ?_
  first | refine ixm (by assumption) ?_ | refine bnd ?_ | refine bndi ?_ | refine ixkq (fun y18 hy18 qy18 ly18 => ?_) | refine ixiq (fun y18 hy18 qy18 ly18 => ?_)
  first | refine ixs ?_ | refine ixo (by assumption) ?_ | refine ixoq (fun z2 hz2 qz2 lz2 => ?_) | skip
  have hkq : ∀ h : keptHas k page = false, ¬ (0 ≤ page ∧ page < k.Known.length ∧ page < k.Slots.length) := fun h => by simpa [keptHas] using h
  exact (by first | (rw [forget_out (hkq (by assumption))]; rfl) | (rw [forget_in (by omega), show rKept ⟨k.Known.set page.toNat false, k.Slots.set page.toNat noSlot⟩ = [.sl 1 ((k.Known.map dBool).set page.toNat (dBool false)), .sl 2 ((k.Slots.map dSlot).set page.toNat (dSlot noSlot))] from by simp [rKept, List.map_set]]; rfl))
 ·have hkq : ∀ h : keptHas k page = false, ¬ (0 ≤ page ∧ page < k.Known.length ∧ page < k.Slots.length) := fun h => by simpa [keptHas] using h
  exact (by first | (rw [forget_out (hkq (by assumption))]; rfl) | (rw [forget_in (by omega), show rKept ⟨k.Known.set page.toNat false, k.Slots.set page.toNat noSlot⟩ = [.sl 1 ((k.Known.map dBool).set page.toNat (dBool false)), .sl 2 ((k.Slots.map dSlot).set page.toNat (dSlot noSlot))] from by simp [rKept, List.map_set]]; rfl))
theorem impl_ForgetUses_f (k : VKept) (t : List VSlot) (page : Int) [Q (SmKept k)] [Q (SmSlotS t)] : Fun Tryz.prog 307 [A (rKept k), L 2 (t.map dSlot), I page] (RG [.a (rKept (forgetUses k t page))]) := by
 refine Fun.w 25 Tryz.func307 fun w g0 _ => ?_
 refine callG (impl_copyKept_f _).k ?_
 refine callL (impl_UsesOf_f t page).k ?_
 refine len ?_
 refine loopA [6, 7, 14, 15] [] [7, 11] (fun (i : Nat) => [.set 16 (I i)]) (fun (i : Nat) => [(7, ⟨true, [.own (.sl 1 ((lessBy k ((usesOf t page).take i)).Known.map dBool)), .own (.sl 2 ((lessBy k ((usesOf t page).take i)).Slots.map dSlot))]⟩)]) (fun (i : Nat) => i ≤ (usesOf t page).length) (fun (i : Nat) => (usesOf t page).length - i) (0) (Nat.zero_le _) ?_
 refine ⟨hda, fun i hyp N1 hN1 => ?_⟩
 have hyp : i ≤ (usesOf t page).length := hyp
 have hul := uses_len t page
 have htl := (inferInstance : LenX t 1048576).h
 refine cnd (fun hb => ?_) (fun hb => ?_)
 ·obtain ⟨p, hp⟩ : ∃ p, (usesOf t page)[i]? = some p := ⟨_, List.getElem?_eq_getElem (by omega)⟩
  first | refine ixm (by assumption) ?_ | refine bnd ?_ | refine bndi ?_ | refine ixkq (fun y18 hy18 qy18 ly18 => ?_) | refine ixiq (fun y18 hy18 qy18 ly18 => ?_)
  first | refine ixs ?_ | refine ixo (by assumption) ?_ | refine ixoq (fun z1 hz1 qz1 lz1 => ?_) | skip
  refine callG (impl_Forget_f (lessBy k ((usesOf t page).take i)) p).k ?_
  refine rng ?_
  refine hN1 _ _ _ ?_
  refine nxa (i + 1) (by omega) (by repeat' first | exact rfl | refine And.intro ?_ ?_ | exact True.intro | (refine eqS ?_; rw [lessBy_step hp]; done))
 ·refine hN1 _ _ _ ?_
  exact (by rw [show forgetUses k t page = (lessBy k ((usesOf t page).take i)) from by unfold forgetUses lessBy; rw [List.take_of_length_le (by omega)]]; rfl)
theorem spec_ForgetUses_f (k : VKept) (t : List VSlot) (page : Int) [Q (SmKept k)] [Q (SmSlotS t)] : Fun Tryz.prog 305 [A (rKept k), L 2 (t.map dSlot), I page] (RG [.a (rKept (forgetUses k t page))]) := by
 refine Fun.w 27 Tryz.func305 fun w g0 _ => ?_
 refine callG (spec_l07Copy_f _).k ?_
 refine callL (spec_UsesOf_f t page).k ?_
 refine loopA [3, 6, 7] [] [3, 10] (fun (i : Nat) => [.set 8 (I i)]) (fun (i : Nat) => [(3, ⟨true, [.own (.sl 1 ((lessBy k ((usesOf t page).take i)).Known.map dBool)), .own (.sl 2 ((lessBy k ((usesOf t page).take i)).Slots.map dSlot))]⟩)]) (fun (i : Nat) => i ≤ (usesOf t page).length) (fun (i : Nat) => (usesOf t page).length - i) (0) (Nat.zero_le _) ?_
 refine ⟨hda, fun i hyp N1 hN1 => ?_⟩
 have hyp : i ≤ (usesOf t page).length := hyp
 have hul := uses_len t page
 have htl := (inferInstance : LenX t 1048576).h
 refine len ?_
 refine cnd (fun hb => ?_) (fun hb => ?_)
 ·obtain ⟨p, hp⟩ : ∃ p, (usesOf t page)[i]? = some p := ⟨_, List.getElem?_eq_getElem (by omega)⟩
  refine regU [6] [(0, 0), (1, 0), (2, 0), (3, 0), (4, 0), (5, 1), (6, 1)] ?_
  first | refine ixm (by assumption) ?_ | refine bnd ?_ | refine bndi ?_ | refine ixkq (fun y23 hy23 qy23 ly23 => ?_) | refine ixiq (fun y23 hy23 qy23 ly23 => ?_)
  first | refine ixs ?_ | refine ixo (by assumption) ?_ | refine ixoq (fun z1 hz1 qz1 lz1 => ?_) | skip
  refine callG (spec_Forget_f (lessBy k ((usesOf t page).take i)) p).k ?_
  refine rng ?_
  refine hN1 _ _ _ ?_
  refine nxa (i + 1) (by omega) (by repeat' first | exact rfl | refine And.intro ?_ ?_ | exact True.intro | (refine eqS ?_; rw [lessBy_step hp]; done))
 ·refine hN1 _ _ _ ?_
  exact (by rw [show forgetUses k t page = (lessBy k ((usesOf t page).take i)) from by unfold forgetUses lessBy; rw [List.take_of_length_le (by omega)]]; rfl)
theorem impl_hasPage_f (h : VHost) (m : Int) (page : Int) : Fun Tryz.prog 225 [A (rHost h), I m, I page] (RV (.bool (hasPage h m page))) := by
 refine Fun.w 20 Tryz.func225 fun w g0 hM => ?_
 have hl0 := hM.1.2.1.map
 refine callP (impl_HostOk_f _).k ?_
 refine cnd (fun hg2 => ?_) (fun hg2 => ?_)
 ·refine len ?_
  refine callP (impl_has_f _ _).k ?_
  refine cnd (fun hg9 => ?_) (fun hg9 => ?_)
  ·refine callP (impl_has_f _ _).k ?_
   exact resV (by first | (refine congrArg Value.bool ?_; rw [Bool.eq_iff_iff, hasPage_on]; simp [*]; done) | (refine congrArg Value.bool ?_; rw [Bool.eq_iff_iff, hasPage_on]; simp [*]; omega) | (refine congrArg Value.bool ?_; symm; rw [Bool.eq_false_iff]; intro e; have := hasPage_on.1 e; omega) | (refine congrArg Value.bool ?_; symm; rw [Bool.eq_false_iff]; intro e; have := hasPage_on.1 e; simp_all))
  ·exact resV (by first | (refine congrArg Value.bool ?_; rw [Bool.eq_iff_iff, hasPage_on]; simp [*]; done) | (refine congrArg Value.bool ?_; rw [Bool.eq_iff_iff, hasPage_on]; simp [*]; omega) | (refine congrArg Value.bool ?_; symm; rw [Bool.eq_false_iff]; intro e; have := hasPage_on.1 e; omega) | (refine congrArg Value.bool ?_; symm; rw [Bool.eq_false_iff]; intro e; have := hasPage_on.1 e; simp_all))
 ·exact resV (by first | (refine congrArg Value.bool ?_; rw [Bool.eq_iff_iff, hasPage_on]; simp [*]; done) | (refine congrArg Value.bool ?_; rw [Bool.eq_iff_iff, hasPage_on]; simp [*]; omega) | (refine congrArg Value.bool ?_; symm; rw [Bool.eq_false_iff]; intro e; have := hasPage_on.1 e; omega) | (refine congrArg Value.bool ?_; symm; rw [Bool.eq_false_iff]; intro e; have := hasPage_on.1 e; simp_all))
theorem spec_l22Is_f (h : VHost) (m : Int) (page : Int) : Fun Tryz.prog 144 [A (rHost h), I m, I page] (RV (.bool (hasPage h m page))) := by
 refine Fun.w 21 Tryz.func144 fun w g0 hM => ?_
 have hl0 := hM.1.2.1.map
 refine callP (spec_HostOk_f _).k ?_
 refine cnd (fun hg2 => ?_) (fun hg2 => ?_)
 ·refine len ?_
  refine rng ?_
  refine callP (spec_l01In_f _ _ _).k ?_
  refine cnd (fun hg10 => ?_) (fun hg10 => ?_)
  ·refine callP (spec_l01In_f _ _ _).k ?_
   exact resV (by first | (refine congrArg Value.bool ?_; rw [Bool.eq_iff_iff, hasPage_on]; simp [*]; done) | (refine congrArg Value.bool ?_; rw [Bool.eq_iff_iff, hasPage_on]; simp [*]; omega) | (refine congrArg Value.bool ?_; symm; rw [Bool.eq_false_iff]; intro e; have := hasPage_on.1 e; omega) | (refine congrArg Value.bool ?_; symm; rw [Bool.eq_false_iff]; intro e; have := hasPage_on.1 e; simp_all))
  ·exact resV (by first | (refine congrArg Value.bool ?_; rw [Bool.eq_iff_iff, hasPage_on]; simp [*]; done) | (refine congrArg Value.bool ?_; rw [Bool.eq_iff_iff, hasPage_on]; simp [*]; omega) | (refine congrArg Value.bool ?_; symm; rw [Bool.eq_false_iff]; intro e; have := hasPage_on.1 e; omega) | (refine congrArg Value.bool ?_; symm; rw [Bool.eq_false_iff]; intro e; have := hasPage_on.1 e; simp_all))
 ·exact resV (by first | (refine congrArg Value.bool ?_; rw [Bool.eq_iff_iff, hasPage_on]; simp [*]; done) | (refine congrArg Value.bool ?_; rw [Bool.eq_iff_iff, hasPage_on]; simp [*]; omega) | (refine congrArg Value.bool ?_; symm; rw [Bool.eq_false_iff]; intro e; have := hasPage_on.1 e; omega) | (refine congrArg Value.bool ?_; symm; rw [Bool.eq_false_iff]; intro e; have := hasPage_on.1 e; simp_all))
theorem spec_l25Mon_f (h : VHost) (m : Int) : Fun Tryz.prog 139 [A (rHost h), I m] (RV (.bool (hasMon h m))) := by
 refine Fun.w 15 Tryz.func139 fun w g0 hM => ?_
 have hl0 := hM.1.2.1.map
 refine callP (spec_HostOk_f _).k ?_
 refine cnd (fun hg2 => ?_) (fun hg2 => ?_)
 ·refine len ?_
  refine rng ?_
  refine callP (spec_l01In_f _ _ _).k ?_
  exact resV (by first | (refine congrArg Value.bool ?_; rw [Bool.eq_iff_iff, hasMon_on]; simp [*]; done) | (refine congrArg Value.bool ?_; rw [Bool.eq_iff_iff, hasMon_on]; simp [*]; omega) | (refine congrArg Value.bool ?_; symm; rw [Bool.eq_false_iff]; intro e; have := hasMon_on.1 e; omega) | (refine congrArg Value.bool ?_; symm; rw [Bool.eq_false_iff]; intro e; have := hasMon_on.1 e; simp_all))
 ·exact resV (by first | (refine congrArg Value.bool ?_; rw [Bool.eq_iff_iff, hasMon_on]; simp [*]; done) | (refine congrArg Value.bool ?_; rw [Bool.eq_iff_iff, hasMon_on]; simp [*]; omega) | (refine congrArg Value.bool ?_; symm; rw [Bool.eq_false_iff]; intro e; have := hasMon_on.1 e; omega) | (refine congrArg Value.bool ?_; symm; rw [Bool.eq_false_iff]; intro e; have := hasMon_on.1 e; simp_all))
end Go.Proofs.YteelmdpahpggkaaGreat.T

