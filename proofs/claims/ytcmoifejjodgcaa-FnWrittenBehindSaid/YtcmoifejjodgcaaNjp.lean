
import Derived.Test.YtcmoifejjodgcaaNhp
namespace Go.Proofs.Ytcmoifejjodgcaa.T
open Go
set_option linter.unusedVariables false
set_option linter.unusedSimpArgs false
set_option maxRecDepth 100000
set_option maxHeartbeats 8000000
theorem row_next {b : List VEntry} {i k : Nat} {y z : VEntry} (h : okRow b i k = true) (hy : b[i]? = some y) (hz : b[k]? = some z) (hn : ¬ (y.Tag = z.Tag ∧ y.Page = z.Page)) : okRow b i (k + 1) = true := by
 unfold okRow at h ⊢
 rw [List.range_succ, List.all_append, h, hy]
 have h2 : sameE y z = false := decide_eq_false hn
 simp [hz, h2]
theorem buf_next {b : List VEntry} {i : Nat} (h : bufTo b i = true) (h1 : okRow b i i = true) : bufTo b (i + 1) = true := by
 unfold bufTo at h ⊢
 rw [List.range_succ, List.all_append, h]
 simp [h1]
theorem buf_bad {b : List VEntry} {i k : Nat} {y z : VEntry} (hi : i < b.length) (hk : k < i) (hy : b[i]? = some y) (hz : b[k]? = some z) (h : y.Tag = z.Tag ∧ y.Page = z.Page) : bufferOk b = false := by
 have h1 : okRow b i i = false := by
  rw [Bool.eq_false_iff]
  intro e
  have h2 := List.all_eq_true.1 e k (List.mem_range.2 hk)
  rw [hy, hz] at h2
  simp [sameE, h] at h2
 have h3 : bufTo b b.length = false := by
  rw [Bool.eq_false_iff]
  intro e
  have h2 := List.all_eq_true.1 e i (List.mem_range.2 hi)
  rw [h1] at h2
  cases h2
 unfold bufferOk
 rw [h3]
 rfl
theorem buf_end {b : List VEntry} {i : Nat} (h : bufTo b i = true) (hi : i = b.length) : bufferOk b = decide ((b.length : Int) ≤ 6) := by
 subst hi
 unfold bufferOk
 rw [h, Bool.true_and, Bool.eq_iff_iff]
 simp
 omega
theorem range_off {P : Nat → Bool} {n k : Nat} (hk : k < n) (h : P k = false) : (List.range n).all P = false := by
 rw [List.all_eq_false]
 exact ⟨k, List.mem_range.2 hk, by simp [h]⟩
theorem range_step {P : Nat → Bool} {k : Nat} (h : (List.range k).all P = true) (hp : P k = true) : (List.range (k + 1)).all P = true := by
 rw [List.range_succ, List.all_append, h]
 simp [hp]
theorem monPre_len {x : VMon} (h : monPre x = true) : x.Outer.length = 8 ∧ x.Out.length = 8 ∧ x.Dirty.length = 8 ∧ x.Guests.length ≤ 2 ∧ 1 ≤ x.Guests.length ∧ x.Tables.length = x.Guests.length := by
 simp only [monPre, Bool.and_eq_true, decide_eq_true_eq, tableOk] at h
 omega
theorem outAt_eq {x : VMon} {i : Nat} {s : VSlot} {p : List Int} (h1 : x.Outer[i]? = some s) (h2 : x.Out[i]? = some p) : outAt x i = if s = noSlot then pageOk p else decide (p.length = 0) && enough s.Rights 1 := by unfold outAt; rw [h1, h2]
theorem out_empty {x : VMon} {i : Nat} {s : VSlot} {p : List Int} (h1 : x.Outer[i]? = some s) (h2 : x.Out[i]? = some p) (h : s.Page = -1 ∧ s.Rights = 0) : outAt x i = pageOk p := by
 rw [outAt_eq h1 h2, if_pos]
 obtain ⟨a, b⟩ := s
 simp_all
theorem out_in {x : VMon} {i : Nat} {s : VSlot} {p : List Int} (h1 : x.Outer[i]? = some s) (h2 : x.Out[i]? = some p) (h : ¬ (s.Page = -1 ∧ s.Rights = 0)) : outAt x i = (decide (p.length = 0) && enough s.Rights 1) := by
 rw [outAt_eq h1 h2, if_neg]
 rintro rfl
 exact h ⟨rfl, rfl⟩
theorem out_no {x : VMon} {i : Nat} {s : VSlot} {p : List Int} (h1 : x.Outer[i]? = some s) (h2 : x.Out[i]? = some p) (h : ((s.Page = -1 ∧ s.Rights = 0) ∧ pageOk p = false) ∨ (¬ (s.Page = -1 ∧ s.Rights = 0) ∧ (¬ p.length = 0 ∨ enough s.Rights 1 = false))) : outAt x i = false := by
 rcases h with ⟨h, h3⟩ | ⟨h, h3⟩
 ·rw [out_empty h1 h2 h, h3]
 ·rw [out_in h1 h2 h]
  rcases h3 with h3 | h3
  ·rw [decide_eq_false h3]; rfl
  ·rw [h3, Bool.and_false]
theorem out_yes {x : VMon} {i : Nat} {s : VSlot} {p : List Int} (h1 : x.Outer[i]? = some s) (h2 : x.Out[i]? = some p) (h : ((s.Page = -1 ∧ s.Rights = 0) ∧ pageOk p = true) ∨ (¬ (s.Page = -1 ∧ s.Rights = 0) ∧ (p.length = 0 ∧ enough s.Rights 1 = true))) : outAt x i = true := by
 rcases h with ⟨h, h3⟩ | ⟨h, h3⟩
 ·rw [out_empty h1 h2 h, h3]
 ·rw [out_in h1 h2 h, h3.2, decide_eq_true h3.1]; rfl
theorem mon_off0 {x : VMon} (h : (monPre x && monEnd x) = false) : monOk x = false := by
 rw [Bool.and_eq_false_iff] at h
 rcases h with h | h <;> simp [monOk, h]
theorem mon_off2 {x : VMon} (h : x.Guests.all guestOk = false) : monOk x = false := by simp [monOk, h]
theorem mon_off3 {x : VMon} {i : Nat} (hi : i < 8) (h : outAt x i = false) : monOk x = false := by simp [monOk, range_off hi h]
theorem mon_on {x : VMon} {i : Nat} (h1 : monPre x = true) (h2 : x.Guests.all guestOk = true) (h3 : (List.range i).all (outAt x) = true) (hi : i = 8) : monOk x = monEnd x := by subst hi; simp [monOk, h1, h2, h3]
theorem impl_BufferOk_f (b : List VEntry) : Fun Try.prog 58 [L 4 (b.map dEntry)] (RV (.bool (bufferOk b))) := by
 refine Fun.w 39 Try.func58 fun w g0 hM => ?_
 have hl0 := hM.1.map
 refine len ?_
 refine loopA [0, 7, 8] [] [] (fun (i : Nat) => [.set 9 (I i)]) (fun (i : Nat) => []) (fun (i : Nat) => (i ≤ b.length) ∧ (bufTo b i = true)) (fun (i : Nat) => b.length - i) (0) (⟨Nat.zero_le _, rfl⟩) ?_
 refine ⟨hda, fun i hyp N1 hN1 => ?_⟩
 have hyp : (i ≤ b.length) ∧ (bufTo b i = true) := hyp
 have hyp1 := hyp.1
 refine cnd (fun hb => ?_) (fun hb => ?_)
 ·obtain ⟨u, hu⟩ : ∃ u, b[i]? = some u := ⟨_, List.getElem?_eq_getElem (by omega)⟩
  refine ixm hu ?_
  first | refine ixs ?_ | refine ixo (by assumption) ?_ | refine ixoq (fun z1 hz1 qz1 lz1 => ?_) | skip
  refine cut 0 i ?_
  refine lenq i ?_ (by show ((b.map dEntry).take i).length = i; rw [List.length_take, List.length_map]; omega)
  refine loopA [0, 4, 7, 8, 9, 16, 17] [] [] (fun (k : Nat) => [.set 18 (I k)]) (fun (k : Nat) => []) (fun (k : Nat) => k ≤ i ∧ okRow b i k = true) (fun (k : Nat) => i - k) (0) (⟨Nat.zero_le _, rfl⟩) ?_
  refine ⟨hda, fun k hypk N2 hN2 => ?_⟩
  have hypk : k ≤ i ∧ okRow b i k = true := hypk
  have hypk1 := hypk.1
  refine cnd (fun hb2 => ?_) (fun hb2 => ?_)
  ·obtain ⟨z, hz⟩ : ∃ u, b[k]? = some u := ⟨_, List.getElem?_eq_getElem (by omega)⟩
   refine ixd (m := k) (d := dEntry z) (by show ((b.map dEntry).take i)[k]? = _; rw [List.getElem?_take, if_pos (by omega), List.getElem?_map, hz]; rfl) ?_
   first | refine ixs ?_ | refine ixo (by assumption) ?_ | refine ixoq (fun z2 hz2 qz2 lz2 => ?_) | skip
   refine cnd (fun hg5 => ?_) (fun hg5 => ?_)
   ·refine cnd (fun hb3 => ?_) (fun hb3 => ?_)
    ·refine hN2 _ _ _ ?_
     refine hN1 _ _ _ ?_
     exact resV (by rw [buf_bad (i := i) (k := k) (by omega) (by omega) hu hz (by omega)])
    ·refine rng ?_
     refine hN2 _ _ _ ?_
     refine nxa (k + 1) (⟨by omega, row_next hypk.2 hu hz (by omega)⟩)
   ·refine rng ?_
    refine hN2 _ _ _ ?_
    refine nxa (k + 1) (⟨by omega, row_next hypk.2 hu hz (by omega)⟩)
  ·refine hN2 _ _ _ ?_
   refine rng ?_
   refine hN1 _ _ _ ?_
   refine nxa (i + 1) (⟨by omega, buf_next hyp.2 (by rw [show k = i by omega] at hypk; exact hypk.2)⟩)
 ·refine hN1 _ _ _ ?_
  refine len ?_
  exact resV (by rw [buf_end hyp.2 (by omega)])
theorem impl_MonOk_f (x : VMon) : Fun Try.prog 59 [A (rMon x)] (RV (.bool (monOk x))) := by
 refine Fun.w 106 Try.func59 fun w g0 hM => ?_
 have hns1 : noSlot.Page = -1 := rfl
 have hns2 : noSlot.Rights = 0 := rfl
 have hl0 := hM.1.2.2.2.1.map
 refine len ?_
 refine callP (impl_within_f _ _ _).k ?_
 refine cnd (fun hg5 => ?_) (fun hg5 => ?_)
 ·exact resV (by rw [mon_off0 (by rw [Bool.eq_false_iff]; intro e; simp only [monPre, monEnd, Bool.and_eq_true, decide_eq_true_eq] at e; first | omega | (simp_all; done))])
 ·refine len ?_
  refine len ?_
  refine cnd (fun hg14 => ?_) (fun hg14 => ?_)
  ·exact resV (by rw [mon_off0 (by rw [Bool.eq_false_iff]; intro e; simp only [monPre, monEnd, Bool.and_eq_true, decide_eq_true_eq] at e; first | omega | (simp_all; done))])
  ·refine callP (impl_TableOk_f _ _ _).k ?_
   refine cnd (fun hg20 => ?_) (fun hg20 => ?_)
   ·exact resV (by rw [mon_off0 (by rw [Bool.eq_false_iff]; intro e; simp only [monPre, monEnd, Bool.and_eq_true, decide_eq_true_eq] at e; first | omega | (simp_all; done))])
   ·refine len ?_
    refine cnd (fun hg26 => ?_) (fun hg26 => ?_)
    ·exact resV (by rw [mon_off0 (by rw [Bool.eq_false_iff]; intro e; simp only [monPre, monEnd, Bool.and_eq_true, decide_eq_true_eq] at e; first | omega | (simp_all; done))])
    ·refine len ?_
     refine cnd (fun hg32 => ?_) (fun hg32 => ?_)
     ·exact resV (by rw [mon_off0 (by rw [Bool.eq_false_iff]; intro e; simp only [monPre, monEnd, Bool.and_eq_true, decide_eq_true_eq] at e; first | omega | (simp_all; done))])
     ·refine len ?_
      refine cnd (fun hg38 => ?_) (fun hg38 => ?_)
      ·exact resV (by rw [mon_off0 (by rw [Bool.eq_false_iff]; intro e; simp only [monPre, monEnd, Bool.and_eq_true, decide_eq_true_eq] at e; first | omega | (simp_all; done))])
      ·refine callP (impl_PendOk_f _).k ?_
       refine cnd (fun hg44 => ?_) (fun hg44 => ?_)
       ·exact resV (by rw [mon_off0 (by rw [Bool.eq_false_iff]; intro e; simp only [monPre, monEnd, Bool.and_eq_true, decide_eq_true_eq] at e; first | omega | (simp_all; done))])
       ·refine callP (impl_within_f _ _ _).k ?_
        refine cnd (fun hg50 => ?_) (fun hg50 => ?_)
        ·exact resV (by rw [mon_off0 (by rw [Bool.eq_false_iff]; intro e; simp only [monPre, monEnd, Bool.and_eq_true, decide_eq_true_eq] at e; first | omega | (simp_all; done))])
        ·refine callP (impl_within_f _ _ _).k ?_
         refine cnd (fun hb => ?_) (fun hb => ?_)
         ·exact resV (by rw [mon_off0 (by rw [Bool.eq_false_iff]; intro e; simp only [monPre, monEnd, Bool.and_eq_true, decide_eq_true_eq] at e; first | omega | (simp_all; done))])
         ·have hp : monPre x = true := (by unfold monPre; simp only [Bool.and_eq_true, decide_eq_true_eq]; refine ⟨⟨⟨⟨?_, ?_⟩, ?_⟩, ?_⟩, ?_⟩ <;> first | omega | assumption)
          have hme : monEnd x = true := (by unfold monEnd; simp only [Bool.and_eq_true, decide_eq_true_eq]; refine ⟨⟨⟨?_, ?_⟩, ?_⟩, ?_⟩ <;> omega)
          have hln := monPre_len hp
          refine len ?_
          refine loopA [1, 64, 65] [] [] (fun (i : Nat) => [.set 66 (I i)]) (fun (i : Nat) => []) (fun (i : Nat) => (i ≤ x.Guests.length) ∧ ((x.Guests.take i).all guestOk = true)) (fun (i : Nat) => x.Guests.length - i) (0) (⟨Nat.zero_le _, rfl⟩) ?_
          refine ⟨hda, fun i hyp N1 hN1 => ?_⟩
          have hyp : (i ≤ x.Guests.length) ∧ ((x.Guests.take i).all guestOk = true) := hyp
          have ha := all_dec hyp.2
          refine cnd (fun hb2 => ?_) (fun hb2 => ?_)
          ·first | refine ixm (by assumption) ?_ | refine bnd ?_ | refine bndi ?_ | refine ixkq (fun y68 hy68 qy68 ly68 => ?_) | refine ixiq (fun y68 hy68 qy68 ly68 => ?_)
           first | refine ixs ?_ | refine ixo (by assumption) ?_ | refine ixoq (fun z1 hz1 qz1 lz1 => ?_) | skip
           refine callP (impl_GuestOk_f _).k ?_
           refine cnd (fun hb3 => ?_) (fun hb3 => ?_)
           ·refine hN1 _ _ _ ?_
            exact resV (by rw [mon_off2 (ha.1 _ (by assumption) (by assumption))])
           ·refine rng ?_
            refine hN1 _ _ _ ?_
            refine nxa (i + 1) (⟨by omega, all_next hyp.2 (by assumption) (by assumption)⟩)
          ·refine hN1 _ _ _ ?_
           have hga : x.Guests.all guestOk = true := ha.2 (by omega)
           refine len ?_
           refine loopA [1, 75, 76] [] [] (fun (i : Nat) => [.set 77 (I i)]) (fun (i : Nat) => []) (fun (i : Nat) => i ≤ 8 ∧ (List.range i).all (outAt x) = true) (fun (i : Nat) => 8 - i) (0) (⟨Nat.zero_le _, rfl⟩) ?_
           refine ⟨hda, fun i hypi N2 hN2 => ?_⟩
           have hypi : i ≤ 8 ∧ (List.range i).all (outAt x) = true := hypi
           have hypi1 := hypi.1
           refine cnd (fun hb4 => ?_) (fun hb4 => ?_)
           ·obtain ⟨s, hs⟩ : ∃ s, x.Outer[i]? = some s := ⟨_, List.getElem?_eq_getElem (by omega)⟩
            obtain ⟨p, hp2⟩ : ∃ p, x.Out[i]? = some p := ⟨_, List.getElem?_eq_getElem (by omega)⟩
            first | refine ixm (by assumption) ?_ | refine bnd ?_ | refine bndi ?_ | refine ixkq (fun y80 hy80 qy80 ly80 => ?_) | refine ixiq (fun y80 hy80 qy80 ly80 => ?_)
            first | refine ixs ?_ | refine ixo (by assumption) ?_ | refine ixoq (fun z2 hz2 qz2 lz2 => ?_) | skip
            refine regQ ?_
            refine callQ (impl_NoSlot_f).k ?_
            refine eqa ?_
            refine cnd (fun hb5 => ?_) (fun hb5 => ?_)
            ·first | refine ixm (by assumption) ?_ | refine bnd ?_ | refine bndi ?_ | refine ixkq (fun y88 hy88 qy88 ly88 => ?_) | refine ixiq (fun y88 hy88 qy88 ly88 => ?_)
             first | refine ixs ?_ | refine ixo (by assumption) ?_ | refine ixoq (fun z3 hz3 qz3 lz3 => ?_) | skip
             refine callP (impl_PageOk_f _).k ?_
             refine cnd (fun hb6 => ?_) (fun hb6 => ?_)
             ·refine hN2 _ _ _ ?_
              exact resV (by rw [mon_off3 (i := i) (by omega) (out_no hs hp2 (by rcases Decidable.em (s.Page = -1 ∧ s.Rights = 0) with hse | hse <;> first | (refine .inl ⟨hse, ?_⟩; first | assumption | (exfalso; omega)) | (refine .inr ⟨hse, ?_⟩; first | (exfalso; omega) | (right; assumption) | (left; omega))))])
             ·refine rng ?_
              refine hN2 _ _ _ ?_
              refine nxa (i + 1) (⟨by omega, range_step hypi.2 (out_yes hs hp2 (by rcases Decidable.em (s.Page = -1 ∧ s.Rights = 0) with hse | hse <;> first | (refine .inl ⟨hse, ?_⟩; first | assumption | (exfalso; omega)) | (refine .inr ⟨hse, ?_⟩; first | (exfalso; omega) | (refine ⟨?_, ?_⟩ <;> first | omega | assumption))))⟩)
            ·refine callP (impl_Enough_f _ _).k ?_
             refine cnd (fun hg4 => ?_) (fun hg4 => ?_)
             ·refine hN2 _ _ _ ?_
              exact resV (by rw [mon_off3 (i := i) (by omega) (out_no hs hp2 (by rcases Decidable.em (s.Page = -1 ∧ s.Rights = 0) with hse | hse <;> first | (refine .inl ⟨hse, ?_⟩; first | assumption | (exfalso; omega)) | (refine .inr ⟨hse, ?_⟩; first | (exfalso; omega) | (right; assumption) | (left; omega))))])
             ·first | refine ixm (by assumption) ?_ | refine bnd ?_ | refine bndi ?_ | refine ixkq (fun y100 hy100 qy100 ly100 => ?_) | refine ixiq (fun y100 hy100 qy100 ly100 => ?_)
              first | refine ixs ?_ | refine ixo (by assumption) ?_ | refine ixoq (fun z4 hz4 qz4 lz4 => ?_) | skip
              first | refine ixs ?_ | refine ixo (by assumption) ?_ | refine ixoq (fun z5 hz5 qz5 lz5 => ?_) | skip
              refine len ?_
              refine cnd (fun hb7 => ?_) (fun hb7 => ?_)
              ·refine hN2 _ _ _ ?_
               exact resV (by rw [mon_off3 (i := i) (by omega) (out_no hs hp2 (by rcases Decidable.em (s.Page = -1 ∧ s.Rights = 0) with hse | hse <;> first | (refine .inl ⟨hse, ?_⟩; first | assumption | (exfalso; omega)) | (refine .inr ⟨hse, ?_⟩; first | (exfalso; omega) | (right; assumption) | (left; omega))))])
              ·refine rng ?_
               refine hN2 _ _ _ ?_
               refine nxa (i + 1) (⟨by omega, range_step hypi.2 (out_yes hs hp2 (by rcases Decidable.em (s.Page = -1 ∧ s.Rights = 0) with hse | hse <;> first | (refine .inl ⟨hse, ?_⟩; first | assumption | (exfalso; omega)) | (refine .inr ⟨hse, ?_⟩; first | (exfalso; omega) | (refine ⟨?_, ?_⟩ <;> first | omega | assumption))))⟩)
           ·refine hN2 _ _ _ ?_
            exact resV (by rw [mon_on hp hga hypi.2 (by omega), hme])
end Go.Proofs.Ytcmoifejjodgcaa.T

namespace Go.Proofs.Ytcmoifejjodgcaa.T
open Go
set_option linter.unusedVariables false
set_option linter.unusedSimpArgs false
set_option maxRecDepth 100000
set_option maxHeartbeats 8000000
def mask (l : List Int) : List Bool := (List.range 12).map fun (p : Nat) => decide ((p : Int) ∈ l)
theorem mask_len (l : List Int) : (mask l).length = 12 := by simp [mask]
theorem mask_get {l : List Int} {p : Nat} (h : p < 12) : (mask l)[p]? = some (decide ((p : Int) ∈ l)) := by simp [mask, h]
theorem mask_nil : mask [] = List.replicate 12 false := rfl
theorem mask_set {l : List Int} {p : Nat} : (mask l).set p true = mask (l ++ [(p : Int)]) := by
 apply List.ext_getElem?
 intro j
 rw [List.getElem?_set]
 simp only [mask, List.getElem?_map, List.length_map, List.length_range]
 by_cases hj : j < 12
 ·rw [List.getElem?_range hj]
  by_cases h : p = j
  ·subst h; simp [hj]
  ·simp [h, Ne.symm h]
   intro e
   exact absurd (by omega : p = j) h
 ·rw [List.getElem?_eq_none (by simp; omega)]
  split
  ·rw [if_neg (by omega)]; rfl
  ·rfl
theorem mask_get2 {l : List Int} {p : Int} (h : 0 ≤ p ∧ p < 12) : (mask l)[p.toNat]? = some (decide (p ∈ l)) := by
 have := mask_get (l := l) (p := p.toNat) (by omega)
 rwa [show ((p.toNat : Nat) : Int) = p by omega] at this
theorem mask_set2 {l : List Int} {p : Int} (h : 0 ≤ p) : (mask l).set p.toNat true = mask (l ++ [p]) := by
 rw [mask_set, show ((p.toNat : Nat) : Int) = p by omega]
theorem pages_step {t : List VSlot} {k : Nat} {y : VSlot} (hy : t[k]? = some y) : pagesOf (t.take (k + 1)) = pagesOf (t.take k) ++ if 0 ≤ y.Page then [y.Page] else [] := by
 unfold pagesOf
 rw [List.take_add_one, hy, List.map_append, List.filter_append]
 by_cases h : 0 ≤ y.Page <;> simp [h]
theorem mon_outer {x : VMon} (h : monOk x = true) : x.Outer.length = 8 ∧ x.Guests.length ≤ 2 ∧ x.Tables.length = x.Guests.length ∧ x.Out.length = 8 ∧ x.Dirty.length = 8 ∧ ∀ s ∈ x.Outer, s = noSlot ∨ (0 ≤ s.Page ∧ s.Page ≤ 11 ∧ 1 ≤ s.Rights ∧ s.Rights ≤ 3) := by
 simp only [monOk, Bool.and_eq_true] at h
 have h1 := monPre_len h.1.1.1
 refine ⟨h1.1, h1.2.2.2.1, h1.2.2.2.2.2, h1.2.1, h1.2.2.1, fun s hs => ?_⟩
 have h2 := h.1.1.1
 simp only [monPre, tableOk, Bool.and_eq_true] at h2
 have h3 := List.all_eq_true.1 h2.1.1.2.1 s hs
 simp only [slotOk, Bool.or_eq_true, Bool.and_eq_true, decide_eq_true_eq] at h3
 rcases h3 with h3 | h3
 ·exact .inl h3
 ·exact .inr (by omega)
theorem mon_slot {x : VMon} {k : Nat} {y : VSlot} (h : monOk x = true) (hy : x.Outer[k]? = some y) : -1 ≤ y.Page ∧ y.Page ≤ 11 := by
 rcases (mon_outer h).2.2.2.2.2 y (List.mem_of_getElem? hy) with rfl | h1
 ·exact ⟨by decide, by decide⟩
 ·omega
abbrev soFar (h : VHost) (i : Nat) (t : List VSlot) : List Int := (h.Mons.take i).flatMap pagesIn ++ pagesOf t
theorem far_next {h : VHost} {i : Nat} {x : VMon} (hx : h.Mons[i]? = some x) : (h.Mons.take (i + 1)).flatMap pagesIn = soFar h i x.Outer := by
 rw [List.take_add_one, hx]
 simp [soFar, pagesIn]
theorem far_bad {h : VHost} {i k : Nat} {x : VMon} {y : VSlot} (hx : h.Mons[i]? = some x) (hy : x.Outer[k]? = some y) (h0 : 0 ≤ y.Page) (hm : y.Page ∈ soFar h i (x.Outer.take k)) : hostOk h = false := by
 have h1 : h.Mons.flatMap pagesIn = soFar h i (x.Outer.take k) ++ (y.Page :: (pagesOf (x.Outer.drop (k + 1)) ++ (h.Mons.drop (i + 1)).flatMap pagesIn)) := by
  have e1 : h.Mons = h.Mons.take i ++ x :: h.Mons.drop (i + 1) := by
   have := (List.getElem?_eq_some_iff.1 hx)
   rw [← this.2, ← List.drop_eq_getElem_cons, List.take_append_drop]
  have e2 : x.Outer = x.Outer.take k ++ y :: x.Outer.drop (k + 1) := by
   have := (List.getElem?_eq_some_iff.1 hy)
   rw [← this.2, ← List.drop_eq_getElem_cons, List.take_append_drop]
  have e3 : pagesIn x = pagesOf (x.Outer.take k) ++ (y.Page :: pagesOf (x.Outer.drop (k + 1))) := by
   unfold pagesIn
   conv => lhs; rw [e2]
   unfold pagesOf
   rw [List.map_append, List.filter_append, List.map_cons, List.filter_cons, if_pos (by simpa using h0)]
  conv => lhs; rw [e1]
  rw [List.flatMap_append, List.flatMap_cons, e3]
  simp [soFar]
 have h2 : ¬ (h.Mons.flatMap pagesIn).Nodup := by
  rw [h1, List.nodup_append]
  rintro ⟨_, _, h3⟩
  exact h3 _ hm _ List.mem_cons_self rfl
 unfold hostOk
 rw [decide_eq_false h2, Bool.and_false]
theorem far_ok {h : VHost} {i k : Nat} {x : VMon} {y : VSlot} (hy : x.Outer[k]? = some y) (h0 : 0 ≤ y.Page) (hn : (soFar h i (x.Outer.take k)).Nodup) (hm : ¬ y.Page ∈ soFar h i (x.Outer.take k)) : (soFar h i (x.Outer.take (k + 1))).Nodup ∧ soFar h i (x.Outer.take (k + 1)) = soFar h i (x.Outer.take k) ++ [y.Page] := by
 have e : soFar h i (x.Outer.take (k + 1)) = soFar h i (x.Outer.take k) ++ [y.Page] := by
  unfold soFar
  rw [pages_step hy, if_pos h0, List.append_assoc]
 refine ⟨?_, e⟩
 rw [e, List.nodup_append]
 exact ⟨hn, by simp, fun a ha b hb => by rw [List.mem_singleton.1 hb]; rintro rfl; exact hm ha⟩
theorem far_same {h : VHost} {i k : Nat} {x : VMon} {y : VSlot} (hy : x.Outer[k]? = some y) (h0 : ¬ 0 ≤ y.Page) : soFar h i (x.Outer.take (k + 1)) = soFar h i (x.Outer.take k) := by
 unfold soFar
 rw [pages_step hy, if_neg h0, List.append_nil]
def hostPre (h : VHost) : Bool := memOk h.Memory 12 && inR h.Mons.length 1 3 && bufferOk h.Buffer && bufferOk h.IoBuffer
theorem host_off {h : VHost} (h1 : hostPre h = false) : hostOk h = false := by unfold hostPre at h1; unfold hostOk; rw [h1]; simp
theorem host_off2 {h : VHost} (h1 : h.Mons.all monOk = false) : hostOk h = false := by unfold hostOk; rw [h1]; simp
theorem host_on {h : VHost} {i : Nat} (h1 : hostPre h = true) (h2 : h.Mons.all monOk = true) (hn : ((h.Mons.take i).flatMap pagesIn).Nodup) (hi : h.Mons.length ≤ i) : hostOk h = true := by
 unfold hostPre at h1
 unfold hostOk
 rw [h1, h2]
 rw [List.take_of_length_le hi] at hn
 simp [hn]
theorem impl_HostOk_f (x : VHost) : Fun Try.prog 38 [A (rHost x)] (RV (.bool (hostOk x))) := by
 refine Fun.w 63 Try.func38 fun w g0 hM => ?_
 have hl0 := hM.1.2.1.map
 refine callP (impl_MemOk_f _ _).k ?_
 refine cnd (fun hg4 => ?_) (fun hg4 => ?_)
 ·exact resV (by rw [host_off (by rw [Bool.eq_false_iff]; intro e; simp only [hostPre, Bool.and_eq_true, decide_eq_true_eq] at e; first | omega | (simp_all; done))])
 ·refine len ?_
  refine callP (impl_within_f _ _ _).k ?_
  refine cnd (fun hg11 => ?_) (fun hg11 => ?_)
  ·exact resV (by rw [host_off (by rw [Bool.eq_false_iff]; intro e; simp only [hostPre, Bool.and_eq_true, decide_eq_true_eq] at e; first | omega | (simp_all; done))])
  ·refine callP (impl_BufferOk_f _).k ?_
   refine cnd (fun hg17 => ?_) (fun hg17 => ?_)
   ·exact resV (by rw [host_off (by rw [Bool.eq_false_iff]; intro e; simp only [hostPre, Bool.and_eq_true, decide_eq_true_eq] at e; first | omega | (simp_all; done))])
   ·refine callP (impl_BufferOk_f _).k ?_
    refine cnd (fun hb => ?_) (fun hb => ?_)
    ·exact resV (by rw [host_off (by rw [Bool.eq_false_iff]; intro e; simp only [hostPre, Bool.and_eq_true, decide_eq_true_eq] at e; first | omega | (simp_all; done))])
    ·have hpre : hostPre x = true := (by unfold hostPre; simp only [*, Bool.and_true, Bool.true_and]; exact decide_eq_true (by omega))
     refine mkw 12 ?_
     refine len ?_
     refine loopA [3, 33, 34] [3] [3] (fun (i : Nat) => [.set 35 (I i)]) (fun (i : Nat) => [(3, ⟨false, [.own (.sl 1 ((mask ((x.Mons.take i).flatMap pagesIn)).map dBool))]⟩)]) (fun (i : Nat) => (i ≤ x.Mons.length) ∧ ((x.Mons.take i).all monOk = true ∧ ((x.Mons.take i).flatMap pagesIn).Nodup)) (fun (i : Nat) => x.Mons.length - i) (0) (⟨Nat.zero_le _, rfl, List.nodup_nil⟩) ?_
     refine ⟨(hda (by repeat' first | exact rfl | refine And.intro ?_ ?_ | exact True.intro | (refine eqS ?_; simp [mask_nil]; done))), fun i hyp N1 hN1 => ?_⟩
     have hyp : (i ≤ x.Mons.length) ∧ ((x.Mons.take i).all monOk = true ∧ ((x.Mons.take i).flatMap pagesIn).Nodup) := hyp
     have ha := all_dec hyp.2.1
     refine cnd (fun hb2 => ?_) (fun hb2 => ?_)
     ·obtain ⟨u, hu⟩ : ∃ u, x.Mons[i]? = some u := ⟨_, List.getElem?_eq_getElem (by omega)⟩
      refine ixm hu ?_
      first | refine ixs ?_ | refine ixo (by assumption) ?_ | refine ixoq (fun z1 hz1 qz1 lz1 => ?_) | skip
      refine callP (impl_MonOk_f _).k ?_
      refine cnd (fun hb3 => ?_) (fun hb3 => ?_)
      ·refine hN1 _ _ _ ?_
       exact resV (by rw [host_off2 (ha.1 _ hu (by assumption))])
      ·have hmo : monOk u = true := by assumption
       have hmu := mon_outer hmo
       refine len ?_
       refine loopA [3, 33, 34, 35, 43, 44] [3] [3] (fun (k : Nat) => [.set 45 (I k)]) (fun (k : Nat) => [(3, ⟨false, [.own (.sl 1 ((mask (soFar x i (u.Outer.take k))).map dBool))]⟩)]) (fun (k : Nat) => k ≤ u.Outer.length ∧ (soFar x i (u.Outer.take k)).Nodup) (fun (k : Nat) => u.Outer.length - k) (0) (⟨Nat.zero_le _, by simpa [soFar, pagesOf] using hyp.2.2⟩) ?_
       refine ⟨(hda (by repeat' first | exact rfl | refine And.intro ?_ ?_ | exact True.intro | (refine eqS ?_; simp [soFar, pagesOf]; done))), fun k hypk N2 hN2 => ?_⟩
       have hypk : k ≤ u.Outer.length ∧ (soFar x i (u.Outer.take k)).Nodup := hypk
       have hyp1 := hyp.1
       have hypk1 := hypk.1
       refine cnd (fun hb4 => ?_) (fun hb4 => ?_)
       ·obtain ⟨s, hs⟩ : ∃ s, u.Outer[k]? = some s := ⟨_, List.getElem?_eq_getElem (by omega)⟩
        have hsr := mon_slot hmo hs
        refine ixm hs ?_
        first | refine ixs ?_ | refine ixo (by assumption) ?_ | refine ixoq (fun z2 hz2 qz2 lz2 => ?_) | skip
        refine cnd (fun hb5 => ?_) (fun hb5 => ?_)
        ·refine rng ?_
         refine hN2 _ _ _ ?_
         refine nxa (k + 1) (by first | exact ⟨by omega, (far_ok hs (by omega) hypk.2 (by assumption)).1⟩ | exact ⟨by omega, by rw [far_same hs (by omega)]; exact hypk.2⟩ | (exfalso; omega)) (by repeat' first | exact rfl | refine And.intro ?_ ?_ | exact True.intro | (refine eqS ?_; rw [far_same hs (by omega)]; done) | (refine eqS ?_; rw [(far_ok hs (by omega) hypk.2 (by assumption)).2, ← mask_set2 (by omega), List.map_set]; done) | (refine eqS ?_; (exfalso; omega)))
        ·have hmg := mask_get2 (l := soFar x i (u.Outer.take k)) (p := s.Page) (by omega)
         refine bndi ?_ (by rw [List.length_map, mask_len]; omega)
         first | refine ixs ?_ | refine ixo (by assumption) ?_ | refine ixoq (fun z3 hz3 qz3 lz3 => ?_) | skip
         refine cnd (fun hb6 => ?_) (fun hb6 => ?_)
         ·refine hN2 _ _ _ ?_
          refine hN1 _ _ _ ?_
          exact resV (by first | (exfalso; omega) | rw [far_bad hu hs (by omega) (by assumption)])
         ·refine bndi ?_ (by rw [List.length_map, mask_len]; omega)
          first | refine ixs ?_ | refine ixo (by assumption) ?_ | refine ixoq (fun z4 hz4 qz4 lz4 => ?_) | skip
          refine rng ?_
          refine hN2 _ _ _ ?_
          refine nxa (k + 1) (by first | exact ⟨by omega, (far_ok hs (by omega) hypk.2 (by assumption)).1⟩ | exact ⟨by omega, by rw [far_same hs (by omega)]; exact hypk.2⟩ | (exfalso; omega)) (by repeat' first | exact rfl | refine And.intro ?_ ?_ | exact True.intro | (refine eqS ?_; rw [far_same hs (by omega)]; done) | (refine eqS ?_; rw [(far_ok hs (by omega) hypk.2 (by assumption)).2, ← mask_set2 (by omega), List.map_set]; done) | (refine eqS ?_; (exfalso; omega)))
       ·refine hN2 _ _ _ ?_
        refine rng ?_
        refine hN1 _ _ _ ?_
        refine nxa (i + 1) (⟨by omega, all_next hyp.2.1 hu hmo, by rw [far_next hu]; rw [show u.Outer.take k = u.Outer from List.take_of_length_le (by omega)] at hypk; exact hypk.2⟩) (by repeat' first | exact rfl | refine And.intro ?_ ?_ | exact True.intro | (refine eqS ?_; rw [far_next hu, show u.Outer.take k = u.Outer from List.take_of_length_le (by omega)]; done))
     ·refine hN1 _ _ _ ?_
      exact resV (by rw [host_on hpre (ha.2 (by omega)) hyp.2.2 (by omega)])
theorem impl_copyKept_f (x : VKept) [Q (SmKept x)] : Fun Try.prog 61 [A (rKept x)] (RG [.a (rKept x)]) := by
 refine Fun.w 11 Try.func61 fun w g0 _ => ?_
 refine regT [3, 8] [3] [1] (.quiet 1 0 (.quiet 2 0 (.quiet 4 1 (.quiet 5 1 (.fork (.alt 0 (.fork (.alt 3 (.fork (.alt 6 (.quiet 7 0 (.fork (.alt 8 .done .stop))) .stop)) .stop)) .stop)))))) ?_
 repeat' first | exact True.intro | refine And.intro ?_ ?_ | (intro _ _) | refine appPq ?_ | refine appP ?_ | refine callL (impl_copyTable_f _).k ?_
 exact rfl
end Go.Proofs.Ytcmoifejjodgcaa.T

