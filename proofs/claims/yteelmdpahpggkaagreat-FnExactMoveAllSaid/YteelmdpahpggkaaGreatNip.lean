
import Derived.Test.YteelmdpahpggkaaGreatNhp
namespace Go.Proofs.YteelmdpahpggkaaGreat.T
open Go
set_option linter.unusedVariables false
set_option linter.unusedSimpArgs false
set_option maxRecDepth 100000
set_option maxHeartbeats 8000000
theorem row_next {b : List VEntry} {i k : Nat} {y z : VEntry} (h : okRow b i k = true) (hy : b[i]? = some y) (hz : b[k]? = some z) (hn : ¬ (y.Tag = z.Tag ∧ y.Page = z.Page)) : okRow b i (k + 1) = true := by
 unfold okRow at h ⊢
 rw [List.range_succ, List.all_append, h, hy]
 have h2 : sameE y z = false := decide_eq_false hn
 simp [hz, h2]
theorem buf_next {b : List VEntry} {i : Nat} (h : bufTo b i = true) (h1 : okRow b i i = true) : bufTo b (i + 1) = true := by
 unfold bufTo at h ⊢
 rw [List.range_succ, List.all_append, h]
 simp [h1]
theorem buf_bad {b : List VEntry} {i k : Nat} {y z : VEntry} (hi : i < b.length) (hk : k < i) (hy : b[i]? = some y) (hz : b[k]? = some z) (h : y.Tag = z.Tag ∧ y.Page = z.Page) : bufferOk b = false := by
 have h1 : okRow b i i = false := by
  rw [Bool.eq_false_iff]
  intro e
  have h2 := List.all_eq_true.1 e k (List.mem_range.2 hk)
  rw [hy, hz] at h2
  simp [sameE, h] at h2
 have h3 : bufTo b b.length = false := by
  rw [Bool.eq_false_iff]
  intro e
  have h2 := List.all_eq_true.1 e i (List.mem_range.2 hi)
  rw [h1] at h2
  cases h2
 unfold bufferOk
 rw [h3]
 rfl
theorem buf_end {b : List VEntry} {i : Nat} (h : bufTo b i = true) (hi : i = b.length) : bufferOk b = decide ((b.length : Int) ≤ 6) := by
 subst hi
 unfold bufferOk
 rw [h, Bool.true_and, Bool.eq_iff_iff]
 simp
 omega
theorem range_off {P : Nat → Bool} {n k : Nat} (hk : k < n) (h : P k = false) : (List.range n).all P = false := by
 rw [List.all_eq_false]
 exact ⟨k, List.mem_range.2 hk, by simp [h]⟩
theorem range_step {P : Nat → Bool} {k : Nat} (h : (List.range k).all P = true) (hp : P k = true) : (List.range (k + 1)).all P = true := by
 rw [List.range_succ, List.all_append, h]
 simp [hp]
theorem monPre_len {x : VMon} (h : monPre x = true) : x.Outer.length = 8 ∧ x.Out.length = 8 ∧ x.Dirty.length = 8 ∧ x.Guests.length ≤ 2 ∧ 1 ≤ x.Guests.length ∧ x.Tables.length = x.Guests.length := by
 simp only [monPre, Bool.and_eq_true, decide_eq_true_eq, tableOk] at h
 omega
theorem outAt_eq {x : VMon} {i : Nat} {s : VSlot} {p : List Int} (h1 : x.Outer[i]? = some s) (h2 : x.Out[i]? = some p) : outAt x i = if s = noSlot then pageOk p else decide (p.length = 0) && enough s.Rights 1 := by unfold outAt; rw [h1, h2]
theorem out_empty {x : VMon} {i : Nat} {s : VSlot} {p : List Int} (h1 : x.Outer[i]? = some s) (h2 : x.Out[i]? = some p) (h : s.Page = -1 ∧ s.Rights = 0) : outAt x i = pageOk p := by
 rw [outAt_eq h1 h2, if_pos]
 obtain ⟨a, b⟩ := s
 simp_all
theorem out_in {x : VMon} {i : Nat} {s : VSlot} {p : List Int} (h1 : x.Outer[i]? = some s) (h2 : x.Out[i]? = some p) (h : ¬ (s.Page = -1 ∧ s.Rights = 0)) : outAt x i = (decide (p.length = 0) && enough s.Rights 1) := by
 rw [outAt_eq h1 h2, if_neg]
 rintro rfl
 exact h ⟨rfl, rfl⟩
theorem out_no {x : VMon} {i : Nat} {s : VSlot} {p : List Int} (h1 : x.Outer[i]? = some s) (h2 : x.Out[i]? = some p) (h : ((s.Page = -1 ∧ s.Rights = 0) ∧ pageOk p = false) ∨ (¬ (s.Page = -1 ∧ s.Rights = 0) ∧ (¬ p.length = 0 ∨ enough s.Rights 1 = false))) : outAt x i = false := by
 rcases h with ⟨h, h3⟩ | ⟨h, h3⟩
 ·rw [out_empty h1 h2 h, h3]
 ·rw [out_in h1 h2 h]
  rcases h3 with h3 | h3
  ·rw [decide_eq_false h3]; rfl
  ·rw [h3, Bool.and_false]
theorem out_yes {x : VMon} {i : Nat} {s : VSlot} {p : List Int} (h1 : x.Outer[i]? = some s) (h2 : x.Out[i]? = some p) (h : ((s.Page = -1 ∧ s.Rights = 0) ∧ pageOk p = true) ∨ (¬ (s.Page = -1 ∧ s.Rights = 0) ∧ (p.length = 0 ∧ enough s.Rights 1 = true))) : outAt x i = true := by
 rcases h with ⟨h, h3⟩ | ⟨h, h3⟩
 ·rw [out_empty h1 h2 h, h3]
 ·rw [out_in h1 h2 h, h3.2, decide_eq_true h3.1]; rfl
theorem mon_off0 {x : VMon} (h : (monPre x && monEnd x) = false) : monOk x = false := by
 rw [Bool.and_eq_false_iff] at h
 rcases h with h | h <;> simp [monOk, h]
theorem mon_off1 {x : VMon} (h : monPre x = false) : monOk x = false := by simp [monOk, h]
theorem mon_off2 {x : VMon} (h : x.Guests.all guestOk = false) : monOk x = false := by simp [monOk, h]
theorem mon_off3 {x : VMon} {i : Nat} (hi : i < 8) (h : outAt x i = false) : monOk x = false := by simp [monOk, range_off hi h]
theorem mon_on {x : VMon} {i : Nat} (h1 : monPre x = true) (h2 : x.Guests.all guestOk = true) (h3 : (List.range i).all (outAt x) = true) (hi : i = 8) : monOk x = monEnd x := by subst hi; simp [monOk, h1, h2, h3]
theorem spec_BufferOk_f (b : List VEntry) : Fun Tryz.prog 193 [L 4 (b.map dEntry)] (RV (.bool (bufferOk b))) := by
 refine Fun.w 43 Tryz.func193 fun w g0 hM => ?_
 have hl0 := hM.1.map
 refine loopA [0] [] [] (fun (i : Nat) => [.set 3 (I i)]) (fun (i : Nat) => []) (fun (i : Nat) => (i ≤ b.length) ∧ (bufTo b i = true)) (fun (i : Nat) => b.length - i) (0) (⟨Nat.zero_le _, rfl⟩) ?_
 refine ⟨hda, fun i hyp N1 hN1 => ?_⟩
 have hyp : (i ≤ b.length) ∧ (bufTo b i = true) := hyp
 have hyp1 := hyp.1
 refine len ?_
 refine cnd (fun hb => ?_) (fun hb => ?_)
 ·obtain ⟨u, hu⟩ : ∃ u, b[i]? = some u := ⟨_, List.getElem?_eq_getElem (by omega)⟩
  refine loopA [0, 3] [] [] (fun (k : Nat) => [.set 4 (I k)]) (fun (k : Nat) => []) (fun (k : Nat) => k ≤ i ∧ okRow b i k = true) (fun (k : Nat) => i - k) (0) (⟨Nat.zero_le _, rfl⟩) ?_
  refine ⟨hda, fun k hypk N2 hN2 => ?_⟩
  have hypk : k ≤ i ∧ okRow b i k = true := hypk
  have hypk1 := hypk.1
  refine cnd (fun hb2 => ?_) (fun hb2 => ?_)
  ·obtain ⟨z, hz⟩ : ∃ u, b[k]? = some u := ⟨_, List.getElem?_eq_getElem (by omega)⟩
   refine regQ ?_
   refine ixm hu ?_
   first | refine ixs ?_ | refine ixo (by assumption) ?_ | refine ixoq (fun z1 hz1 qz1 lz1 => ?_) | skip
   refine ixm hz ?_
   first | refine ixs ?_ | refine ixo (by assumption) ?_ | refine ixoq (fun z2 hz2 qz2 lz2 => ?_) | skip
   refine cnd (fun hg11 => ?_) (fun hg11 => ?_)
   ·refine ixm hu ?_
    first | refine ixs ?_ | refine ixo (by assumption) ?_ | refine ixoq (fun z3 hz3 qz3 lz3 => ?_) | skip
    refine ixm hz ?_
    first | refine ixs ?_ | refine ixo (by assumption) ?_ | refine ixoq (fun z4 hz4 qz4 lz4 => ?_) | skip
    refine cnd (fun hb3 => ?_) (fun hb3 => ?_)
    ·refine hN2 _ _ _ ?_
     refine hN1 _ _ _ ?_
     exact resV (by rw [buf_bad (i := i) (k := k) (by omega) (by omega) hu hz (by omega)])
    ·refine rng ?_
     refine hN2 _ _ _ ?_
     refine nxa (k + 1) (⟨by omega, row_next hypk.2 hu hz (by omega)⟩)
   ·refine rng ?_
    refine hN2 _ _ _ ?_
    refine nxa (k + 1) (⟨by omega, row_next hypk.2 hu hz (by omega)⟩)
  ·refine hN2 _ _ _ ?_
   refine rng ?_
   refine hN1 _ _ _ ?_
   refine nxa (i + 1) (⟨by omega, buf_next hyp.2 (by rw [show k = i by omega] at hypk; exact hypk.2)⟩)
 ·refine hN1 _ _ _ ?_
  refine len ?_
  exact resV (by rw [buf_end hyp.2 (by omega)])
theorem impl_BufferOk_f (b : List VEntry) : Fun Tryz.prog 205 [L 4 (b.map dEntry)] (RV (.bool (bufferOk b))) := by
 refine Fun.w 39 Tryz.func205 fun w g0 hM => ?_
 have hl0 := hM.1.map
 refine len ?_
 refine loopA [0, 7, 8] [] [] (fun (i : Nat) => [.set 9 (I i)]) (fun (i : Nat) => []) (fun (i : Nat) => (i ≤ b.length) ∧ (bufTo b i = true)) (fun (i : Nat) => b.length - i) (0) (⟨Nat.zero_le _, rfl⟩) ?_
 refine ⟨hda, fun i hyp N1 hN1 => ?_⟩
 have hyp : (i ≤ b.length) ∧ (bufTo b i = true) := hyp
 have hyp1 := hyp.1
 refine cnd (fun hb => ?_) (fun hb => ?_)
 ·obtain ⟨u, hu⟩ : ∃ u, b[i]? = some u := ⟨_, List.getElem?_eq_getElem (by omega)⟩
  refine ixm hu ?_
  first | refine ixs ?_ | refine ixo (by assumption) ?_ | refine ixoq (fun z1 hz1 qz1 lz1 => ?_) | skip
  refine cut 0 i ?_
  refine lenq i ?_ (by show ((b.map dEntry).take i).length = i; rw [List.length_take, List.length_map]; omega)
  refine loopA [0, 4, 7, 8, 9, 16, 17] [] [] (fun (k : Nat) => [.set 18 (I k)]) (fun (k : Nat) => []) (fun (k : Nat) => k ≤ i ∧ okRow b i k = true) (fun (k : Nat) => i - k) (0) (⟨Nat.zero_le _, rfl⟩) ?_
  refine ⟨hda, fun k hypk N2 hN2 => ?_⟩
  have hypk : k ≤ i ∧ okRow b i k = true := hypk
  have hypk1 := hypk.1
  refine cnd (fun hb2 => ?_) (fun hb2 => ?_)
  ·obtain ⟨z, hz⟩ : ∃ u, b[k]? = some u := ⟨_, List.getElem?_eq_getElem (by omega)⟩
   refine ixd (m := k) (d := dEntry z) (by show ((b.map dEntry).take i)[k]? = _; rw [List.getElem?_take, if_pos (by omega), List.getElem?_map, hz]; rfl) ?_
   first | refine ixs ?_ | refine ixo (by assumption) ?_ | refine ixoq (fun z2 hz2 qz2 lz2 => ?_) | skip
   refine cnd (fun hg5 => ?_) (fun hg5 => ?_)
   ·refine cnd (fun hb3 => ?_) (fun hb3 => ?_)
    ·refine hN2 _ _ _ ?_
     refine hN1 _ _ _ ?_
     exact resV (by rw [buf_bad (i := i) (k := k) (by omega) (by omega) hu hz (by omega)])
    ·refine rng ?_
     refine hN2 _ _ _ ?_
     refine nxa (k + 1) (⟨by omega, row_next hypk.2 hu hz (by omega)⟩)
   ·refine rng ?_
    refine hN2 _ _ _ ?_
    refine nxa (k + 1) (⟨by omega, row_next hypk.2 hu hz (by omega)⟩)
  ·refine hN2 _ _ _ ?_
   refine rng ?_
   refine hN1 _ _ _ ?_
   refine nxa (i + 1) (⟨by omega, buf_next hyp.2 (by rw [show k = i by omega] at hypk; exact hypk.2)⟩)
 ·refine hN1 _ _ _ ?_
  refine len ?_
  exact resV (by rw [buf_end hyp.2 (by omega)])
theorem spec_MonOk_f (x : VMon) : Fun Tryz.prog 103 [A (rMon x)] (RV (.bool (monOk x))) := by
 refine Fun.w 115 Tryz.func103 fun w g0 hM => ?_
 have hns1 : noSlot.Page = -1 := rfl
 have hns2 : noSlot.Rights = 0 := rfl
 have hl0 := hM.1.2.2.2.1.map
 refine len ?_
 refine callP (spec_l01In_f _ _ _).k ?_
 refine cnd (fun hg5 => ?_) (fun hg5 => ?_)
 ·exact resV (by rw [mon_off1 (by rw [Bool.eq_false_iff]; intro e; simp only [monPre, Bool.and_eq_true, decide_eq_true_eq] at e; first | omega | (simp_all; done))])
 ·refine len ?_
  refine len ?_
  refine cnd (fun hg14 => ?_) (fun hg14 => ?_)
  ·exact resV (by rw [mon_off1 (by rw [Bool.eq_false_iff]; intro e; simp only [monPre, Bool.and_eq_true, decide_eq_true_eq] at e; first | omega | (simp_all; done))])
  ·refine callP (spec_TableOk_f _ _ _).k ?_
   refine cnd (fun hg20 => ?_) (fun hg20 => ?_)
   ·exact resV (by rw [mon_off1 (by rw [Bool.eq_false_iff]; intro e; simp only [monPre, Bool.and_eq_true, decide_eq_true_eq] at e; first | omega | (simp_all; done))])
   ·refine len ?_
    refine cnd (fun hg26 => ?_) (fun hg26 => ?_)
    ·exact resV (by rw [mon_off1 (by rw [Bool.eq_false_iff]; intro e; simp only [monPre, Bool.and_eq_true, decide_eq_true_eq] at e; first | omega | (simp_all; done))])
    ·refine len ?_
     refine cnd (fun hb => ?_) (fun hb => ?_)
     ·exact resV (by rw [mon_off1 (by rw [Bool.eq_false_iff]; intro e; simp only [monPre, Bool.and_eq_true, decide_eq_true_eq] at e; first | omega | (simp_all; done))])
     ·have hp : monPre x = true := (by unfold monPre; simp only [Bool.and_eq_true, decide_eq_true_eq]; refine ⟨⟨⟨⟨?_, ?_⟩, ?_⟩, ?_⟩, ?_⟩ <;> first | omega | assumption)
      have hln := monPre_len hp
      refine loopA [1] [] [] (fun (i : Nat) => [.set 3 (I i)]) (fun (i : Nat) => []) (fun (i : Nat) => (i ≤ x.Guests.length) ∧ ((x.Guests.take i).all guestOk = true)) (fun (i : Nat) => x.Guests.length - i) (0) (⟨Nat.zero_le _, rfl⟩) ?_
      refine ⟨hda, fun i hyp N1 hN1 => ?_⟩
      have hyp : (i ≤ x.Guests.length) ∧ ((x.Guests.take i).all guestOk = true) := hyp
      have ha := all_dec hyp.2
      refine len ?_
      refine cnd (fun hb2 => ?_) (fun hb2 => ?_)
      ·first | refine ixm (by assumption) ?_ | refine bnd ?_ | refine bndi ?_ | refine ixkq (fun y48 hy48 qy48 ly48 => ?_) | refine ixiq (fun y48 hy48 qy48 ly48 => ?_)
       first | refine ixs ?_ | refine ixo (by assumption) ?_ | refine ixoq (fun z1 hz1 qz1 lz1 => ?_) | skip
       refine callP (spec_GuestOk_f _).k ?_
       refine cnd (fun hb3 => ?_) (fun hb3 => ?_)
       ·refine hN1 _ _ _ ?_
        exact resV (by rw [mon_off2 (ha.1 _ (by assumption) (by assumption))])
       ·refine rng ?_
        refine hN1 _ _ _ ?_
        refine nxa (i + 1) (⟨by omega, all_next hyp.2 (by assumption) (by assumption)⟩)
      ·refine hN1 _ _ _ ?_
       have hga : x.Guests.all guestOk = true := ha.2 (by omega)
       refine loopA [1] [] [] (fun (i : Nat) => [.set 4 (I i)]) (fun (i : Nat) => []) (fun (i : Nat) => i ≤ 8 ∧ (List.range i).all (outAt x) = true) (fun (i : Nat) => 8 - i) (0) (⟨Nat.zero_le _, rfl⟩) ?_
       refine ⟨hda, fun i hypi N2 hN2 => ?_⟩
       have hypi : i ≤ 8 ∧ (List.range i).all (outAt x) = true := hypi
       have hypi1 := hypi.1
       refine cnd (fun hb4 => ?_) (fun hb4 => ?_)
       ·obtain ⟨s, hs⟩ : ∃ s, x.Outer[i]? = some s := ⟨_, List.getElem?_eq_getElem (by omega)⟩
        obtain ⟨p, hp2⟩ : ∃ p, x.Out[i]? = some p := ⟨_, List.getElem?_eq_getElem (by omega)⟩
        refine regQ ?_
        first | refine ixm (by assumption) ?_ | refine bnd ?_ | refine bndi ?_ | refine ixkq (fun y59 hy59 qy59 ly59 => ?_) | refine ixiq (fun y59 hy59 qy59 ly59 => ?_)
        first | refine ixs ?_ | refine ixo (by assumption) ?_ | refine ixoq (fun z2 hz2 qz2 lz2 => ?_) | skip
        refine callQ (spec_NoSlot_f).k ?_
        refine eqa ?_
        refine cnd (fun hg1 => ?_) (fun hg1 => ?_)
        ·first | refine ixm (by assumption) ?_ | refine bnd ?_ | refine bndi ?_ | refine ixkq (fun y68 hy68 qy68 ly68 => ?_) | refine ixiq (fun y68 hy68 qy68 ly68 => ?_)
         first | refine ixs ?_ | refine ixo (by assumption) ?_ | refine ixoq (fun z3 hz3 qz3 lz3 => ?_) | skip
         first | refine ixs ?_ | refine ixo (by assumption) ?_ | refine ixoq (fun z4 hz4 qz4 lz4 => ?_) | skip
         refine len ?_
         refine cnd (fun hg9 => ?_) (fun hg9 => ?_)
         ·refine hN2 _ _ _ ?_
          exact resV (by rw [mon_off3 (i := i) (by omega) (out_no hs hp2 (by rcases Decidable.em (s.Page = -1 ∧ s.Rights = 0) with hse | hse <;> first | (refine .inl ⟨hse, ?_⟩; first | assumption | (exfalso; omega)) | (refine .inr ⟨hse, ?_⟩; first | (exfalso; omega) | (right; assumption) | (left; omega))))])
         ·first | refine ixm (by assumption) ?_ | refine bnd ?_ | refine bndi ?_ | refine ixkq (fun y76 hy76 qy76 ly76 => ?_) | refine ixiq (fun y76 hy76 qy76 ly76 => ?_)
          first | refine ixs ?_ | refine ixo (by assumption) ?_ | refine ixoq (fun z5 hz5 qz5 lz5 => ?_) | skip
          refine callP (spec_Enough_f _ _).k ?_
          refine cnd (fun hg20 => ?_) (fun hg20 => ?_)
          ·refine hN2 _ _ _ ?_
           exact resV (by rw [mon_off3 (i := i) (by omega) (out_no hs hp2 (by rcases Decidable.em (s.Page = -1 ∧ s.Rights = 0) with hse | hse <;> first | (refine .inl ⟨hse, ?_⟩; first | assumption | (exfalso; omega)) | (refine .inr ⟨hse, ?_⟩; first | (exfalso; omega) | (right; assumption) | (left; omega))))])
          ·refine cnd (fun hg23 => ?_) (fun hg23 => ?_)
           ·first | refine ixm (by assumption) ?_ | refine bnd ?_ | refine bndi ?_ | refine ixkq (fun y90 hy90 qy90 ly90 => ?_) | refine ixiq (fun y90 hy90 qy90 ly90 => ?_)
            first | refine ixs ?_ | refine ixo (by assumption) ?_ | refine ixoq (fun z6 hz6 qz6 lz6 => ?_) | skip
            refine callP (spec_PageOk_f _).k ?_
            refine cnd (fun hb5 => ?_) (fun hb5 => ?_)
            ·refine hN2 _ _ _ ?_
             exact resV (by rw [mon_off3 (i := i) (by omega) (out_no hs hp2 (by rcases Decidable.em (s.Page = -1 ∧ s.Rights = 0) with hse | hse <;> first | (refine .inl ⟨hse, ?_⟩; first | assumption | (exfalso; omega)) | (refine .inr ⟨hse, ?_⟩; first | (exfalso; omega) | (right; assumption) | (left; omega))))])
            ·refine rng ?_
             refine hN2 _ _ _ ?_
             refine nxa (i + 1) (⟨by omega, range_step hypi.2 (out_yes hs hp2 (by rcases Decidable.em (s.Page = -1 ∧ s.Rights = 0) with hse | hse <;> first | (refine .inl ⟨hse, ?_⟩; first | assumption | (exfalso; omega)) | (refine .inr ⟨hse, ?_⟩; first | (exfalso; omega) | (refine ⟨?_, ?_⟩ <;> first | omega | assumption))))⟩)
           ·refine rng ?_
            refine hN2 _ _ _ ?_
            refine nxa (i + 1) (⟨by omega, range_step hypi.2 (out_yes hs hp2 (by rcases Decidable.em (s.Page = -1 ∧ s.Rights = 0) with hse | hse <;> first | (refine .inl ⟨hse, ?_⟩; first | assumption | (exfalso; omega)) | (refine .inr ⟨hse, ?_⟩; first | (exfalso; omega) | (refine ⟨?_, ?_⟩ <;> first | omega | assumption))))⟩)
        ·refine cnd (fun hg23 => ?_) (fun hg23 => ?_)
         ·first | refine ixm (by assumption) ?_ | refine bnd ?_ | refine bndi ?_ | refine ixkq (fun y90 hy90 qy90 ly90 => ?_) | refine ixiq (fun y90 hy90 qy90 ly90 => ?_)
          first | refine ixs ?_ | refine ixo (by assumption) ?_ | refine ixoq (fun z7 hz7 qz7 lz7 => ?_) | skip
          refine callP (spec_PageOk_f _).k ?_
          refine cnd (fun hb6 => ?_) (fun hb6 => ?_)
          ·refine hN2 _ _ _ ?_
           exact resV (by rw [mon_off3 (i := i) (by omega) (out_no hs hp2 (by rcases Decidable.em (s.Page = -1 ∧ s.Rights = 0) with hse | hse <;> first | (refine .inl ⟨hse, ?_⟩; first | assumption | (exfalso; omega)) | (refine .inr ⟨hse, ?_⟩; first | (exfalso; omega) | (right; assumption) | (left; omega))))])
          ·refine rng ?_
           refine hN2 _ _ _ ?_
           refine nxa (i + 1) (⟨by omega, range_step hypi.2 (out_yes hs hp2 (by rcases Decidable.em (s.Page = -1 ∧ s.Rights = 0) with hse | hse <;> first | (refine .inl ⟨hse, ?_⟩; first | assumption | (exfalso; omega)) | (refine .inr ⟨hse, ?_⟩; first | (exfalso; omega) | (refine ⟨?_, ?_⟩ <;> first | omega | assumption))))⟩)
         ·refine rng ?_
          refine hN2 _ _ _ ?_
          refine nxa (i + 1) (⟨by omega, range_step hypi.2 (out_yes hs hp2 (by rcases Decidable.em (s.Page = -1 ∧ s.Rights = 0) with hse | hse <;> first | (refine .inl ⟨hse, ?_⟩; first | assumption | (exfalso; omega)) | (refine .inr ⟨hse, ?_⟩; first | (exfalso; omega) | (refine ⟨?_, ?_⟩ <;> first | omega | assumption))))⟩)
       ·refine hN2 _ _ _ ?_
        refine len ?_
        refine cnd (fun hg4 => ?_) (fun hg4 => ?_)
        ·refine callP (spec_PendOk_f _).k ?_
         refine cnd (fun hg9 => ?_) (fun hg9 => ?_)
         ·refine callP (spec_l01In_f _ _ _).k ?_
          refine cnd (fun hg14 => ?_) (fun hg14 => ?_)
          ·refine callP (spec_l01In_f _ _ _).k ?_
           exact resV (by rw [mon_on hp hga hypi.2 (by omega)]; refine congrArg Value.bool ?_; unfold monEnd; first | (symm; rw [Bool.eq_false_iff]; intro e; simp only [Bool.and_eq_true, decide_eq_true_eq] at e; omega) | (rw [Bool.eq_iff_iff]; simp only [Bool.and_eq_true, decide_eq_true_eq]; omega))
          ·exact resV (by rw [mon_on hp hga hypi.2 (by omega)]; refine congrArg Value.bool ?_; unfold monEnd; first | (symm; rw [Bool.eq_false_iff]; intro e; simp only [Bool.and_eq_true, decide_eq_true_eq] at e; omega) | (rw [Bool.eq_iff_iff]; simp only [Bool.and_eq_true, decide_eq_true_eq]; omega))
         ·exact resV (by rw [mon_on hp hga hypi.2 (by omega)]; refine congrArg Value.bool ?_; unfold monEnd; first | (symm; rw [Bool.eq_false_iff]; intro e; simp only [Bool.and_eq_true, decide_eq_true_eq] at e; omega) | (rw [Bool.eq_iff_iff]; simp only [Bool.and_eq_true, decide_eq_true_eq]; omega))
        ·exact resV (by rw [mon_on hp hga hypi.2 (by omega)]; refine congrArg Value.bool ?_; unfold monEnd; first | (symm; rw [Bool.eq_false_iff]; intro e; simp only [Bool.and_eq_true, decide_eq_true_eq] at e; omega) | (rw [Bool.eq_iff_iff]; simp only [Bool.and_eq_true, decide_eq_true_eq]; omega))
theorem impl_MonOk_f (x : VMon) : Fun Tryz.prog 115 [A (rMon x)] (RV (.bool (monOk x))) := by
 refine Fun.w 106 Tryz.func115 fun w g0 hM => ?_
 have hns1 : noSlot.Page = -1 := rfl
 have hns2 : noSlot.Rights = 0 := rfl
 have hl0 := hM.1.2.2.2.1.map
 refine len ?_
 refine callP (impl_within_f _ _ _).k ?_
 refine cnd (fun hg5 => ?_) (fun hg5 => ?_)
 ·exact resV (by rw [mon_off0 (by rw [Bool.eq_false_iff]; intro e; simp only [monPre, monEnd, Bool.and_eq_true, decide_eq_true_eq] at e; first | omega | (simp_all; done))])
 ·refine len ?_
  refine len ?_
  refine cnd (fun hg14 => ?_) (fun hg14 => ?_)
  ·exact resV (by rw [mon_off0 (by rw [Bool.eq_false_iff]; intro e; simp only [monPre, monEnd, Bool.and_eq_true, decide_eq_true_eq] at e; first | omega | (simp_all; done))])
  ·refine callP (impl_TableOk_f _ _ _).k ?_
   refine cnd (fun hg20 => ?_) (fun hg20 => ?_)
   ·exact resV (by rw [mon_off0 (by rw [Bool.eq_false_iff]; intro e; simp only [monPre, monEnd, Bool.and_eq_true, decide_eq_true_eq] at e; first | omega | (simp_all; done))])
   ·refine len ?_
    refine cnd (fun hg26 => ?_) (fun hg26 => ?_)
    ·exact resV (by rw [mon_off0 (by rw [Bool.eq_false_iff]; intro e; simp only [monPre, monEnd, Bool.and_eq_true, decide_eq_true_eq] at e; first | omega | (simp_all; done))])
    ·refine len ?_
     refine cnd (fun hg32 => ?_) (fun hg32 => ?_)
     ·exact resV (by rw [mon_off0 (by rw [Bool.eq_false_iff]; intro e; simp only [monPre, monEnd, Bool.and_eq_true, decide_eq_true_eq] at e; first | omega | (simp_all; done))])
     ·refine len ?_
      refine cnd (fun hg38 => ?_) (fun hg38 => ?_)
      ·exact resV (by rw [mon_off0 (by rw [Bool.eq_false_iff]; intro e; simp only [monPre, monEnd, Bool.and_eq_true, decide_eq_true_eq] at e; first | omega | (simp_all; done))])
      ·refine callP (impl_PendOk_f _).k ?_
       refine cnd (fun hg44 => ?_) (fun hg44 => ?_)
       ·exact resV (by rw [mon_off0 (by rw [Bool.eq_false_iff]; intro e; simp only [monPre, monEnd, Bool.and_eq_true, decide_eq_true_eq] at e; first | omega | (simp_all; done))])
       ·refine callP (impl_within_f _ _ _).k ?_
        refine cnd (fun hg50 => ?_) (fun hg50 => ?_)
        ·exact resV (by rw [mon_off0 (by rw [Bool.eq_false_iff]; intro e; simp only [monPre, monEnd, Bool.and_eq_true, decide_eq_true_eq] at e; first | omega | (simp_all; done))])
        ·refine callP (impl_within_f _ _ _).k ?_
         refine cnd (fun hb => ?_) (fun hb => ?_)
         ·exact resV (by rw [mon_off0 (by rw [Bool.eq_false_iff]; intro e; simp only [monPre, monEnd, Bool.and_eq_true, decide_eq_true_eq] at e; first | omega | (simp_all; done))])
         ·have hp : monPre x = true := (by unfold monPre; simp only [Bool.and_eq_true, decide_eq_true_eq]; refine ⟨⟨⟨⟨?_, ?_⟩, ?_⟩, ?_⟩, ?_⟩ <;> first | omega | assumption)
          have hme : monEnd x = true := (by unfold monEnd; simp only [Bool.and_eq_true, decide_eq_true_eq]; refine ⟨⟨⟨?_, ?_⟩, ?_⟩, ?_⟩ <;> omega)
          have hln := monPre_len hp
          refine len ?_
          refine loopA [1, 64, 65] [] [] (fun (i : Nat) => [.set 66 (I i)]) (fun (i : Nat) => []) (fun (i : Nat) => (i ≤ x.Guests.length) ∧ ((x.Guests.take i).all guestOk = true)) (fun (i : Nat) => x.Guests.length - i) (0) (⟨Nat.zero_le _, rfl⟩) ?_
          refine ⟨hda, fun i hyp N1 hN1 => ?_⟩
          have hyp : (i ≤ x.Guests.length) ∧ ((x.Guests.take i).all guestOk = true) := hyp
          have ha := all_dec hyp.2
          refine cnd (fun hb2 => ?_) (fun hb2 => ?_)
          ·first | refine ixm (by assumption) ?_ | refine bnd ?_ | refine bndi ?_ | refine ixkq (fun y68 hy68 qy68 ly68 => ?_) | refine ixiq (fun y68 hy68 qy68 ly68 => ?_)
           first | refine ixs ?_ | refine ixo (by assumption) ?_ | refine ixoq (fun z1 hz1 qz1 lz1 => ?_) | skip
           refine callP (impl_GuestOk_f _).k ?_
           refine cnd (fun hb3 => ?_) (fun hb3 => ?_)
           ·refine hN1 _ _ _ ?_
            exact resV (by rw [mon_off2 (ha.1 _ (by assumption) (by assumption))])
           ·refine rng ?_
            refine hN1 _ _ _ ?_
            refine nxa (i + 1) (⟨by omega, all_next hyp.2 (by assumption) (by assumption)⟩)
          ·refine hN1 _ _ _ ?_
           have hga : x.Guests.all guestOk = true := ha.2 (by omega)
           refine len ?_
           refine loopA [1, 75, 76] [] [] (fun (i : Nat) => [.set 77 (I i)]) (fun (i : Nat) => []) (fun (i : Nat) => i ≤ 8 ∧ (List.range i).all (outAt x) = true) (fun (i : Nat) => 8 - i) (0) (⟨Nat.zero_le _, rfl⟩) ?_
           refine ⟨hda, fun i hypi N2 hN2 => ?_⟩
           have hypi : i ≤ 8 ∧ (List.range i).all (outAt x) = true := hypi
           have hypi1 := hypi.1
           refine cnd (fun hb4 => ?_) (fun hb4 => ?_)
           ·obtain ⟨s, hs⟩ : ∃ s, x.Outer[i]? = some s := ⟨_, List.getElem?_eq_getElem (by omega)⟩
            obtain ⟨p, hp2⟩ : ∃ p, x.Out[i]? = some p := ⟨_, List.getElem?_eq_getElem (by omega)⟩
            first | refine ixm (by assumption) ?_ | refine bnd ?_ | refine bndi ?_ | refine ixkq (fun y80 hy80 qy80 ly80 => ?_) | refine ixiq (fun y80 hy80 qy80 ly80 => ?_)
            first | refine ixs ?_ | refine ixo (by assumption) ?_ | refine ixoq (fun z2 hz2 qz2 lz2 => ?_) | skip
            refine regQ ?_
            refine callQ (impl_NoSlot_f).k ?_
            refine eqa ?_
            refine cnd (fun hb5 => ?_) (fun hb5 => ?_)
            ·first | refine ixm (by assumption) ?_ | refine bnd ?_ | refine bndi ?_ | refine ixkq (fun y88 hy88 qy88 ly88 => ?_) | refine ixiq (fun y88 hy88 qy88 ly88 => ?_)
             first | refine ixs ?_ | refine ixo (by assumption) ?_ | refine ixoq (fun z3 hz3 qz3 lz3 => ?_) | skip
             refine callP (impl_PageOk_f _).k ?_
             refine cnd (fun hb6 => ?_) (fun hb6 => ?_)
             ·refine hN2 _ _ _ ?_
              exact resV (by rw [mon_off3 (i := i) (by omega) (out_no hs hp2 (by rcases Decidable.em (s.Page = -1 ∧ s.Rights = 0) with hse | hse <;> first | (refine .inl ⟨hse, ?_⟩; first | assumption | (exfalso; omega)) | (refine .inr ⟨hse, ?_⟩; first | (exfalso; omega) | (right; assumption) | (left; omega))))])
             ·refine rng ?_
              refine hN2 _ _ _ ?_
              refine nxa (i + 1) (⟨by omega, range_step hypi.2 (out_yes hs hp2 (by rcases Decidable.em (s.Page = -1 ∧ s.Rights = 0) with hse | hse <;> first | (refine .inl ⟨hse, ?_⟩; first | assumption | (exfalso; omega)) | (refine .inr ⟨hse, ?_⟩; first | (exfalso; omega) | (refine ⟨?_, ?_⟩ <;> first | omega | assumption))))⟩)
            ·refine callP (impl_Enough_f _ _).k ?_
             refine cnd (fun hg4 => ?_) (fun hg4 => ?_)
             ·refine hN2 _ _ _ ?_
              exact resV (by rw [mon_off3 (i := i) (by omega) (out_no hs hp2 (by rcases Decidable.em (s.Page = -1 ∧ s.Rights = 0) with hse | hse <;> first | (refine .inl ⟨hse, ?_⟩; first | assumption | (exfalso; omega)) | (refine .inr ⟨hse, ?_⟩; first | (exfalso; omega) | (right; assumption) | (left; omega))))])
             ·first | refine ixm (by assumption) ?_ | refine bnd ?_ | refine bndi ?_ | refine ixkq (fun y100 hy100 qy100 ly100 => ?_) | refine ixiq (fun y100 hy100 qy100 ly100 => ?_)
              first | refine ixs ?_ | refine ixo (by assumption) ?_ | refine ixoq (fun z4 hz4 qz4 lz4 => ?_) | skip
              first | refine ixs ?_ | refine ixo (by assumption) ?_ | refine ixoq (fun z5 hz5 qz5 lz5 => ?_) | skip
              refine len ?_
              refine cnd (fun hb7 => ?_) (fun hb7 => ?_)
              ·refine hN2 _ _ _ ?_
               exact resV (by rw [mon_off3 (i := i) (by omega) (out_no hs hp2 (by rcases Decidable.em (s.Page = -1 ∧ s.Rights = 0) with hse | hse <;> first | (refine .inl ⟨hse, ?_⟩; first | assumption | (exfalso; omega)) | (refine .inr ⟨hse, ?_⟩; first | (exfalso; omega) | (right; assumption) | (left; omega))))])
              ·refine rng ?_
               refine hN2 _ _ _ ?_
               refine nxa (i + 1) (⟨by omega, range_step hypi.2 (out_yes hs hp2 (by rcases Decidable.em (s.Page = -1 ∧ s.Rights = 0) with hse | hse <;> first | (refine .inl ⟨hse, ?_⟩; first | assumption | (exfalso; omega)) | (refine .inr ⟨hse, ?_⟩; first | (exfalso; omega) | (refine ⟨?_, ?_⟩ <;> first | omega | assumption))))⟩)
           ·refine hN2 _ _ _ ?_
            exact resV (by rw [mon_on hp hga hypi.2 (by omega), hme])
end Go.Proofs.YteelmdpahpggkaaGreat.T

