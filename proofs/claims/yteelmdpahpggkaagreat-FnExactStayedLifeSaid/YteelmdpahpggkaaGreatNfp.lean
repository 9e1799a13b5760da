
import Derived.Test.YteelmdpahpggkaaGreatNdp
namespace Go.Proofs.YteelmdpahpggkaaGreat.T
open Go
set_option linter.unusedVariables false
set_option linter.unusedSimpArgs false
set_option maxRecDepth 100000
set_option maxHeartbeats 1000000
theorem pow8 {n : Nat} (h : n ≤ 7) : IntKind.i64.wrap (1 * 2 ^ n) = 2 ^ n := by
 have : ∀ m : Fin 8, IntKind.i64.wrap (1 * 2 ^ m.1) = 2 ^ m.1 := by decide +kernel
 exact this ⟨n, by omega⟩
theorem shl {y : Int} {k : Int → Prop} (c : k (2 ^ y.toNat)) (h : 0 ≤ y ∧ y ≤ 7 := by omega) : ShlW .i64 1 y k := ⟨y.toNat, _, by omega, by show _ ≤ 64; omega, pow8 (by omega), c⟩
theorem shr {x y : Int} {k : Int → Prop} (c : k (x.fdiv (2 ^ y.toNat))) (h : 0 ≤ y ∧ y ≤ 7 := by omega) : ShrW .i64 x y k := ⟨y.toNat, _, by omega, by show _ ≤ 64; omega, rfl, c⟩
def lenB (m : Nat) : Nat := (topTo m 8 + 1).toNat
theorem byt8 {s : ByteArray} {i : Int} {k : UInt8 → Prop} (c : k (UInt8.ofNat (lenB i.toNat))) (h : (∀ p : Fin 256, s[p.1]? = some (UInt8.ofNat (lenB p.1))) := by decide +kernel) (h0 : 0 ≤ i ∧ i < 256 := by omega) : ByteW s i k := ⟨i.toNat, _, by omega, h ⟨i.toNat, by omega⟩, c⟩
theorem lenB_top {p : Int} (h : 0 ≤ p ∧ p ≤ 255) : ((UInt8.ofNat (lenB p.toNat)).toNat : Int) = topTo p 8 + 1 ∧ -1 ≤ topTo p 8 ∧ topTo p 8 ≤ 7 := by
 have : ∀ m : Fin 256, ((UInt8.ofNat (lenB m.1)).toNat : Int) = topTo m.1 8 + 1 ∧ -1 ≤ topTo m.1 8 ∧ topTo m.1 8 ≤ 7 := by decide +kernel
 have h1 := this ⟨p.toNat, by omega⟩
 simpa [show ((p.toNat : Nat) : Int) = p by omega] using h1
theorem take_top {p : Int} (h : 0 ≤ p ∧ p ≤ 255) (h0 : 0 ≤ topTo p 8) : idiff p (2 ^ (topTo p 8).toNat) = p - 2 ^ (topTo p 8).toNat ∧ 0 ≤ p - 2 ^ (topTo p 8).toNat ∧ p - 2 ^ (topTo p 8).toNat ≤ 255 := by
 have : ∀ m : Fin 256, 0 ≤ topTo m.1 8 → idiff m.1 (2 ^ (topTo m.1 8).toNat) = m.1 - 2 ^ (topTo m.1 8).toNat ∧ (0 : Int) ≤ m.1 - 2 ^ (topTo m.1 8).toNat ∧ (m.1 : Int) - 2 ^ (topTo m.1 8).toNat ≤ 255 := by decide +kernel
 have h1 := this ⟨p.toNat, by omega⟩
 simp only [show ((p.toNat : Nat) : Int) = p by omega] at h1
 exact h1 h0
theorem topIrq_rng (p : Int) : -1 ≤ topIrq p ∧ topIrq p ≤ 7 ∧ (0 ≤ topIrq p → 0 ≤ p ∧ p ≤ 255 ∧ topIrq p = topTo p 8) := by
 unfold topIrq
 split
 ·rename_i h
  have h := of_decide_eq_true h
  have := lenB_top h
  omega
 ·omega
theorem take_irq {p : Int} (h : 0 ≤ topIrq p) : idiff p (2 ^ (topIrq p).toNat) = p - 2 ^ (topIrq p).toNat ∧ 0 ≤ p - 2 ^ (topIrq p).toNat ∧ p - 2 ^ (topIrq p).toNat ≤ 255 ∧ 0 ≤ p ∧ p ≤ 255 ∧ topIrq p ≤ 7 ∧ takeIrq p = some (p - 2 ^ (topIrq p).toNat, topIrq p) := by
 have h1 := topIrq_rng p
 obtain ⟨h2, h3, h4⟩ := h1.2.2 h
 have h5 := take_top ⟨h2, h3⟩ (by omega)
 rw [← h4] at h5
 exact ⟨h5.1, h5.2.1, h5.2.2, h2, h3, h1.2.1, if_neg (by omega)⟩
theorem top_step {p : Int} {i : Nat} (h : 0 < i) : topTo p i = if bit p ((i : Int) - 1) then (i : Int) - 1 else topTo p (i - 1) := by
 obtain ⟨j, rfl⟩ : ∃ j, i = j + 1 := ⟨i - 1, by omega⟩
 have : ((j + 1 : Nat) : Int) - 1 = j := by omega
 rw [this]
 rfl
theorem top_hit {p : Int} {i : Nat} (h : 0 ≤ p ∧ p ≤ 255) (hy : topTo p 8 = topTo p i) (h0 : 0 ≤ (i : Int) - 1) (hb : iand (p.fdiv (2 ^ ((i : Int) - 1).toNat)) 1 = 1) : topIrq p = (i : Int) - 1 := by
 unfold topIrq
 rw [if_pos (decide_eq_true h), hy, top_step (by omega), if_pos (show bit p _ = true from decide_eq_true hb)]
theorem top_next {p : Int} {i : Nat} (hy : topTo p 8 = topTo p i) (h0 : 0 ≤ (i : Int) - 1) (hb : ¬ iand (p.fdiv (2 ^ ((i : Int) - 1).toNat)) 1 = 1) : topTo p 8 = topTo p (i - 1) := by
 rw [hy, top_step (by omega), if_neg]
 exact fun h => hb (of_decide_eq_true h)
theorem top_end {p : Int} {i : Nat} (hy : topTo p 8 = topTo p i) (h0 : ¬ 0 ≤ (i : Int) - 1) : topIrq p = -1 := by
 unfold topIrq
 rw [hy, show i = 0 by omega]
 split <;> rfl
theorem top_off {p : Int} (h : ¬ (0 ≤ p ∧ p ≤ 255)) : topIrq p = -1 := if_neg fun e => h (of_decide_eq_true e)
theorem spec_PostIrq_f (p : Int) (n : Int) : Fun Tryz.prog 332 [I p, I n] (RG [.c (.v (.int .i64 ((postIrq p n).getD p))), .c (.v (.bool (postIrq p n).isSome))]) := by
 refine Fun.w 20 Tryz.func332 fun w g0 _ => ?_
 refine callP (spec_PendOk_f _).k ?_
 refine cnd (fun hg3 => ?_) (fun hg3 => ?_)
 ·exact (by first | (rw [show postIrq p n = none from if_neg (by simp [*])]; rfl) | (rw [show postIrq p n = some (ior p (2 ^ n.toNat)) from if_pos (by simp [*])]; rfl))
 ·refine callP (spec_l01In_f _ _ _).k ?_
  refine cnd (fun hb => ?_) (fun hb => ?_)
  ·exact (by first | (rw [show postIrq p n = none from if_neg (by simp [*])]; rfl) | (rw [show postIrq p n = some (ior p (2 ^ n.toNat)) from if_pos (by simp [*])]; rfl))
  ·refine cvu ?_
   refine shl ?_
   exact (by first | (rw [show postIrq p n = none from if_neg (by simp [*])]; rfl) | (rw [show postIrq p n = some (ior p (2 ^ n.toNat)) from if_pos (by simp [*])]; rfl))
theorem impl_PostIrq_f (p : Int) (n : Int) : Fun Tryz.prog 434 [I p, I n] (RG [.c (.v (.int .i64 ((postIrq p n).getD p))), .c (.v (.bool (postIrq p n).isSome))]) := by
 refine Fun.w 19 Tryz.func434 fun w g0 _ => ?_
 refine callP (impl_PendOk_f _).k ?_
 refine cnd (fun hg3 => ?_) (fun hg3 => ?_)
 ·exact (by first | (rw [show postIrq p n = none from if_neg (by simp [*])]; rfl) | (rw [show postIrq p n = some (ior p (2 ^ n.toNat)) from if_pos (by simp [*])]; rfl))
 ·refine callP (impl_within_f _ _ _).k ?_
  refine cnd (fun hb => ?_) (fun hb => ?_)
  ·exact (by first | (rw [show postIrq p n = none from if_neg (by simp [*])]; rfl) | (rw [show postIrq p n = some (ior p (2 ^ n.toNat)) from if_pos (by simp [*])]; rfl))
  ·refine shl ?_
   exact (by first | (rw [show postIrq p n = none from if_neg (by simp [*])]; rfl) | (rw [show postIrq p n = some (ior p (2 ^ n.toNat)) from if_pos (by simp [*])]; rfl))
theorem spec_Posts_f (c : VCtl) (n : Int) : Fun Tryz.prog 412 [A (rCtl c), I n] (RV (.bool (posts c n))) := by
 refine Fun.w 20 Tryz.func412 fun w g0 _ => ?_
 refine callP (spec_CtlOk_f _).k ?_
 refine cnd (fun hg2 => ?_) (fun hg2 => ?_)
 ·refine callP (spec_l01In_f _ _ _).k ?_
  refine cnd (fun hg6 => ?_) (fun hg6 => ?_)
  ·refine cvu ?_
   refine shr ?_
   exact resV (by first | (simp [posts, bit, *]; done) | (simp [posts, bit, *]; rfl))
  ·exact resV (by first | (simp [posts, bit, *]; done) | (simp [posts, bit, *]; rfl))
 ·exact resV (by first | (simp [posts, bit, *]; done) | (simp [posts, bit, *]; rfl))
theorem impl_Posts_f (c : VCtl) (n : Int) : Fun Tryz.prog 458 [A (rCtl c), I n] (RV (.bool (posts c n))) := by
 refine Fun.w 19 Tryz.func458 fun w g0 _ => ?_
 refine callP (impl_CtlOk_f _).k ?_
 refine cnd (fun hg2 => ?_) (fun hg2 => ?_)
 ·refine callP (impl_within_f _ _ _).k ?_
  refine cnd (fun hg6 => ?_) (fun hg6 => ?_)
  ·refine shr ?_
   exact resV (by first | (simp [posts, bit, *]; done) | (simp [posts, bit, *]; rfl))
  ·exact resV (by first | (simp [posts, bit, *]; done) | (simp [posts, bit, *]; rfl))
 ·exact resV (by first | (simp [posts, bit, *]; done) | (simp [posts, bit, *]; rfl))
theorem bits_Len64_f (p : Int) (hp : 0 ≤ p ∧ p ≤ 255) : Fun Tryz.prog 473 [V (.int .u64 p)] (RV (.int .i64 (topTo p 8 + 1))) := by
 refine Fun.w 25 Tryz.func473 fun w g0 _ => ?_
 refine cnd (fun hb => ?_) (fun hb => ?_)
 ·omega
 ·refine cnd (fun hb2 => ?_) (fun hb2 => ?_)
  ·omega
  ·refine cnd (fun hb3 => ?_) (fun hb3 => ?_)
   ·omega
   ·refine cvb ?_
    refine byt8 ?_
    have hlb := lenB_top hp
    refine cvs ?_
    refine rng ?_
    exact resV (by have := lenB_top hp; refine congrArg (Value.int .i64) ?_; omega)
theorem bits_Len_f (p : Int) (hp : 0 ≤ p ∧ p ≤ 255) : Fun Tryz.prog 469 [V (.int .u64 p)] (RV (.int .i64 (topTo p 8 + 1))) := by
 refine Fun.w 8 Tryz.func469 fun w g0 _ => ?_
 refine callP (bits_Len64_f p hp).k ?_
 exact rfl
theorem impl_TopIrq_f (p : Int) : Fun Tryz.prog 459 [I p] (RV (.int .i64 (topIrq p))) := by
 refine Fun.w 10 Tryz.func459 fun w g0 _ => ?_
 refine callP (impl_PendOk_f _).k ?_
 refine cnd (fun hb => ?_) (fun hb => ?_)
 ·exact resV (by first | (rw [top_off (by omega)]) | (unfold topIrq; rw [if_pos (decide_eq_true (by omega))]; refine congrArg (Value.int .i64) ?_; omega))
 ·refine cvu ?_
  have hlb := lenB_top (p := p) (by omega)
  refine callP (bits_Len_f p (by omega)).k ?_
  refine rng ?_
  exact resV (by first | (rw [top_off (by omega)]) | (unfold topIrq; rw [if_pos (decide_eq_true (by omega))]; refine congrArg (Value.int .i64) ?_; omega))
theorem spec_TopIrq_f (p : Int) : Fun Tryz.prog 413 [I p] (RV (.int .i64 (topIrq p))) := by
 refine Fun.w 19 Tryz.func413 fun w g0 _ => ?_
 refine loopA [0] [] [] (fun (i : Nat) => [.set 3 (I ((i : Int) - 1))]) (fun (i : Nat) => []) (fun (i : Nat) => i ≤ 8 ∧ topTo p 8 = topTo p i) (fun (i : Nat) => i) (8) (⟨by omega, rfl⟩) ?_
 refine ⟨hda, fun i hyp N1 hN1 => ?_⟩
 have hyp : i ≤ 8 ∧ topTo p 8 = topTo p i := hyp
 have hyp1 := hyp.1
 refine cnd (fun hg2 => ?_) (fun hg2 => ?_)
 ·refine callP (spec_PendOk_f _).k ?_
  refine cnd (fun hb => ?_) (fun hb => ?_)
  ·refine cvu ?_
   refine shr ?_
   refine cnd (fun hb2 => ?_) (fun hb2 => ?_)
   ·refine hN1 _ _ _ ?_
    exact resV (by first | (rw [top_hit (by omega) hyp.2 (by omega) (by assumption)]) | (rw [top_end hyp.2 (by omega)]) | (rw [top_off (by omega)]))
   ·refine rng ?_
    refine hN1 _ _ _ ?_
    refine nxa (i - 1) (⟨by omega, top_next hyp.2 (by omega) (by assumption)⟩)
  ·refine hN1 _ _ _ ?_
   exact resV (by first | (rw [top_hit (by omega) hyp.2 (by omega) (by assumption)]) | (rw [top_end hyp.2 (by omega)]) | (rw [top_off (by omega)]))
 ·refine hN1 _ _ _ ?_
  exact resV (by first | (rw [top_hit (by omega) hyp.2 (by omega) (by assumption)]) | (rw [top_end hyp.2 (by omega)]) | (rw [top_off (by omega)]))
theorem spec_TakeIrq_f (p : Int) : Fun Tryz.prog 334 [I p] (RG [.c (.v (.int .i64 ((takeIrq p).elim p (·.1)))), .c (.v (.int .i64 ((takeIrq p).elim (-1) (·.2)))), .c (.v (.bool (takeIrq p).isSome))]) := by
 refine Fun.w 17 Tryz.func334 fun w g0 _ => ?_
 refine callP (spec_TopIrq_f _).k ?_
 refine cnd (fun hb => ?_) (fun hb => ?_)
 ·exact (by first | (rw [show takeIrq p = none from if_pos (by omega)]; rfl) | (rw [hk.2.2.2.2.2.2]; rfl) | (rw [hk.2.2.2.2.2.2, ← hk.1]; rfl))
 ·have hk := take_irq (p := p) (by omega)
  refine cvu ?_
  refine shl ?_
  refine rng ?_
  exact (by first | (rw [show takeIrq p = none from if_pos (by omega)]; rfl) | (rw [hk.2.2.2.2.2.2]; rfl) | (rw [hk.2.2.2.2.2.2, ← hk.1]; rfl))
theorem impl_TakeIrq_f (p : Int) : Fun Tryz.prog 438 [I p] (RG [.c (.v (.int .i64 ((takeIrq p).elim p (·.1)))), .c (.v (.int .i64 ((takeIrq p).elim (-1) (·.2)))), .c (.v (.bool (takeIrq p).isSome))]) := by
 refine Fun.w 16 Tryz.func438 fun w g0 _ => ?_
 refine callP (impl_TopIrq_f _).k ?_
 refine cnd (fun hb => ?_) (fun hb => ?_)
 ·exact (by first | (rw [show takeIrq p = none from if_pos (by omega)]; rfl) | (rw [hk.2.2.2.2.2.2]; rfl) | (rw [hk.2.2.2.2.2.2, ← hk.1]; rfl))
 ·have hk := take_irq (p := p) (by omega)
  refine shl ?_
  exact (by first | (rw [show takeIrq p = none from if_pos (by omega)]; rfl) | (rw [hk.2.2.2.2.2.2]; rfl) | (rw [hk.2.2.2.2.2.2, ← hk.1]; rfl))
end Go.Proofs.YteelmdpahpggkaaGreat.T

namespace Go.Proofs.YteelmdpahpggkaaGreat.T
open Go
set_option linter.unusedVariables false
set_option linter.unusedSimpArgs false
set_option maxRecDepth 100000
set_option maxHeartbeats 1000000
theorem saw_row {g : VGuest} {n : Int} (h : g.Seen.length < 40) : rGuest (saw g n) = (rGuest g).set 14 (.sl 1 (g.Seen.map dInt ++ [dInt n])) := by
 unfold saw
 rw [if_pos h]
 simp [rGuest]
theorem canRun_eq (g : VGuest) : canRun g = (decide (g.Exit.Kind = 0 ∧ g.Exit.Page = 0 ∧ g.Exit.Write = false ∧ g.Exit.N = 0) && !g.Halted) := by
 unfold canRun
 congr 1
 rcases g with ⟨_, _, _, _, _, _, _, ⟨a, b, c, d⟩, _, _⟩
 simp
instance (x : List VIns) [h : Q (SmInsS x)] : Q (SmGuest (guestNew x)) := ⟨h.h, by simp [SmSlotS, guestNew, tableNew], by simp [SmSlotS, guestNew, tableNew], by simp [SmIntS, guestNew]⟩
theorem spec_l15Copy_f (g : VGuest) [Q (SmGuest g)] : Fun Tryz.prog 288 [A (rGuest g)] (RG [.a (rGuest (g))]) := by
 refine Fun.w 24 Tryz.func288 fun w g0 _ => ?_
 first | refine appPq ?_ | refine appP ?_
 first | refine appPq ?_ | refine appP ?_
 first | refine appPq ?_ | refine appP ?_
 first | refine appPq ?_ | refine appP ?_
 exact rfl
theorem impl_copyGuest_f (g : VGuest) [Q (SmGuest g)] : Fun Tryz.prog 188 [A (rGuest g)] (RG [.a (rGuest (g))]) := by
 refine Fun.w 20 Tryz.func188 fun w g0 _ => ?_
 refine callL (impl_copyProg_f _).k ?_
 refine callL (impl_copyTable_f _).k ?_
 refine callL (impl_copyTable_f _).k ?_
 refine callL (impl_copyInts_f _).k ?_
 exact rfl
theorem spec_TableNew_f (n : Nat) (hn : n ≤ 24 := by omega) : Fun Tryz.prog 75 [I n] (RL 2 ((tableNew n).map dSlot)) := by
 refine Fun.w 17 Tryz.func75 fun w g0 _ => ?_
 refine callP (spec_Brought_n hn).k ?_
 refine loopA [2, 3, 16] [3] [3] (fun (i : Nat) => [.set 4 (I ((n : Int) - i))]) (fun (i : Nat) => [(3, ⟨false, [.own (.sl 2 ((List.replicate i noSlot).map dSlot))]⟩)]) (fun (i : Nat) => i ≤ n) (fun (i : Nat) => n - i) (0) (Nat.zero_le _) ?_
 refine ⟨hda, fun i hyp N1 hN1 => ?_⟩
 have hyp : i ≤ n := hyp
 refine cnd (fun hb => ?_) (fun hb => ?_)
 ·refine callP (spec_NoSlot_f).k ?_
  first | refine appPq ?_ | refine appP ?_
  refine rng ?_
  refine hN1 _ _ _ ?_
  refine nxa (i + 1) (by omega) (by repeat' first | exact rfl | refine And.intro ?_ ?_ | exact True.intro | (refine eqS ?_; simp [List.take_add_one, List.set_set, rangeF_succ, List.replicate_succ', *]; done) | (refine eqS ?_; exact congrArg (fun z : Int => (I z : TS)) (by omega)))
 ·refine hN1 _ _ _ ?_
  exact (by rw [show i = n by omega]; rfl)
theorem spec_GuestOk_f (g : VGuest) : Fun Tryz.prog 195 [A (rGuest g)] (RV (.bool (guestOk g))) := by
 refine Fun.w 47 Tryz.func195 fun w g0 _ => ?_
 refine callP (spec_ProgOk_f _).k ?_
 refine cnd (fun hg3 => ?_) (fun hg3 => ?_)
 ·refine callP (spec_l01In_f _ _ _).k ?_
  refine cnd (fun hg8 => ?_) (fun hg8 => ?_)
  ·refine callP (spec_l01In_f _ _ _).k ?_
   refine cnd (fun hg13 => ?_) (fun hg13 => ?_)
   ·refine callP (spec_TableOk_f _ _ _).k ?_
    refine cnd (fun hg18 => ?_) (fun hg18 => ?_)
    ·refine callP (spec_TableOk_f _ _ _).k ?_
     refine cnd (fun hg23 => ?_) (fun hg23 => ?_)
     ·refine callP (spec_CtlOk_f _).k ?_
      refine cnd (fun hg28 => ?_) (fun hg28 => ?_)
      ·refine callP (spec_PendOk_f _).k ?_
       refine cnd (fun hg33 => ?_) (fun hg33 => ?_)
       ·refine callP (spec_ExitOk_f _).k ?_
        refine cnd (fun hg38 => ?_) (fun hg38 => ?_)
        ·refine len ?_
         exact resV (by first | (simp only [guestOk, *, and_self, decide_true, decide_false, Bool.and_true, Bool.true_and, Bool.false_and, Bool.and_false, Bool.not_true, Bool.not_false]; done) | (simp [guestOk, *]; done) | (simp [guestOk, *]; rfl) | (unfold guestOk; rw [Bool.eq_iff_iff.2 (by simp [*])]; done) | (refine congrArg Value.bool ?_; rw [Bool.eq_iff_iff]; simp [guestOk, *]; done) | (refine congrArg Value.bool ?_; rw [Bool.eq_iff_iff]; simp [guestOk, *]; omega))
        ·exact resV (by first | (simp only [guestOk, *, and_self, decide_true, decide_false, Bool.and_true, Bool.true_and, Bool.false_and, Bool.and_false, Bool.not_true, Bool.not_false]; done) | (simp [guestOk, *]; done) | (simp [guestOk, *]; rfl) | (unfold guestOk; rw [Bool.eq_iff_iff.2 (by simp [*])]; done) | (refine congrArg Value.bool ?_; rw [Bool.eq_iff_iff]; simp [guestOk, *]; done) | (refine congrArg Value.bool ?_; rw [Bool.eq_iff_iff]; simp [guestOk, *]; omega))
       ·exact resV (by first | (simp only [guestOk, *, and_self, decide_true, decide_false, Bool.and_true, Bool.true_and, Bool.false_and, Bool.and_false, Bool.not_true, Bool.not_false]; done) | (simp [guestOk, *]; done) | (simp [guestOk, *]; rfl) | (unfold guestOk; rw [Bool.eq_iff_iff.2 (by simp [*])]; done) | (refine congrArg Value.bool ?_; rw [Bool.eq_iff_iff]; simp [guestOk, *]; done) | (refine congrArg Value.bool ?_; rw [Bool.eq_iff_iff]; simp [guestOk, *]; omega))
      ·exact resV (by first | (simp only [guestOk, *, and_self, decide_true, decide_false, Bool.and_true, Bool.true_and, Bool.false_and, Bool.and_false, Bool.not_true, Bool.not_false]; done) | (simp [guestOk, *]; done) | (simp [guestOk, *]; rfl) | (unfold guestOk; rw [Bool.eq_iff_iff.2 (by simp [*])]; done) | (refine congrArg Value.bool ?_; rw [Bool.eq_iff_iff]; simp [guestOk, *]; done) | (refine congrArg Value.bool ?_; rw [Bool.eq_iff_iff]; simp [guestOk, *]; omega))
     ·exact resV (by first | (simp only [guestOk, *, and_self, decide_true, decide_false, Bool.and_true, Bool.true_and, Bool.false_and, Bool.and_false, Bool.not_true, Bool.not_false]; done) | (simp [guestOk, *]; done) | (simp [guestOk, *]; rfl) | (unfold guestOk; rw [Bool.eq_iff_iff.2 (by simp [*])]; done) | (refine congrArg Value.bool ?_; rw [Bool.eq_iff_iff]; simp [guestOk, *]; done) | (refine congrArg Value.bool ?_; rw [Bool.eq_iff_iff]; simp [guestOk, *]; omega))
    ·exact resV (by first | (simp only [guestOk, *, and_self, decide_true, decide_false, Bool.and_true, Bool.true_and, Bool.false_and, Bool.and_false, Bool.not_true, Bool.not_false]; done) | (simp [guestOk, *]; done) | (simp [guestOk, *]; rfl) | (unfold guestOk; rw [Bool.eq_iff_iff.2 (by simp [*])]; done) | (refine congrArg Value.bool ?_; rw [Bool.eq_iff_iff]; simp [guestOk, *]; done) | (refine congrArg Value.bool ?_; rw [Bool.eq_iff_iff]; simp [guestOk, *]; omega))
   ·exact resV (by first | (simp only [guestOk, *, and_self, decide_true, decide_false, Bool.and_true, Bool.true_and, Bool.false_and, Bool.and_false, Bool.not_true, Bool.not_false]; done) | (simp [guestOk, *]; done) | (simp [guestOk, *]; rfl) | (unfold guestOk; rw [Bool.eq_iff_iff.2 (by simp [*])]; done) | (refine congrArg Value.bool ?_; rw [Bool.eq_iff_iff]; simp [guestOk, *]; done) | (refine congrArg Value.bool ?_; rw [Bool.eq_iff_iff]; simp [guestOk, *]; omega))
  ·exact resV (by first | (simp only [guestOk, *, and_self, decide_true, decide_false, Bool.and_true, Bool.true_and, Bool.false_and, Bool.and_false, Bool.not_true, Bool.not_false]; done) | (simp [guestOk, *]; done) | (simp [guestOk, *]; rfl) | (unfold guestOk; rw [Bool.eq_iff_iff.2 (by simp [*])]; done) | (refine congrArg Value.bool ?_; rw [Bool.eq_iff_iff]; simp [guestOk, *]; done) | (refine congrArg Value.bool ?_; rw [Bool.eq_iff_iff]; simp [guestOk, *]; omega))
 ·exact resV (by first | (simp only [guestOk, *, and_self, decide_true, decide_false, Bool.and_true, Bool.true_and, Bool.false_and, Bool.and_false, Bool.not_true, Bool.not_false]; done) | (simp [guestOk, *]; done) | (simp [guestOk, *]; rfl) | (unfold guestOk; rw [Bool.eq_iff_iff.2 (by simp [*])]; done) | (refine congrArg Value.bool ?_; rw [Bool.eq_iff_iff]; simp [guestOk, *]; done) | (refine congrArg Value.bool ?_; rw [Bool.eq_iff_iff]; simp [guestOk, *]; omega))
theorem impl_GuestOk_f (g : VGuest) : Fun Tryz.prog 208 [A (rGuest g)] (RV (.bool (guestOk g))) := by
 refine Fun.w 47 Tryz.func208 fun w g0 _ => ?_
 refine callP (impl_ProgOk_f _).k ?_
 refine cnd (fun hg3 => ?_) (fun hg3 => ?_)
 ·refine callP (impl_within_f _ _ _).k ?_
  refine cnd (fun hg8 => ?_) (fun hg8 => ?_)
  ·refine callP (impl_within_f _ _ _).k ?_
   refine cnd (fun hg13 => ?_) (fun hg13 => ?_)
   ·refine callP (impl_TableOk_f _ _ _).k ?_
    refine cnd (fun hg18 => ?_) (fun hg18 => ?_)
    ·refine callP (impl_TableOk_f _ _ _).k ?_
     refine cnd (fun hg23 => ?_) (fun hg23 => ?_)
     ·refine callP (impl_CtlOk_f _).k ?_
      refine cnd (fun hg28 => ?_) (fun hg28 => ?_)
      ·refine callP (impl_PendOk_f _).k ?_
       refine cnd (fun hg33 => ?_) (fun hg33 => ?_)
       ·refine callP (impl_ExitOk_f _).k ?_
        refine cnd (fun hg38 => ?_) (fun hg38 => ?_)
        ·refine len ?_
         exact resV (by first | (simp only [guestOk, *, and_self, decide_true, decide_false, Bool.and_true, Bool.true_and, Bool.false_and, Bool.and_false, Bool.not_true, Bool.not_false]; done) | (simp [guestOk, *]; done) | (simp [guestOk, *]; rfl) | (unfold guestOk; rw [Bool.eq_iff_iff.2 (by simp [*])]; done) | (refine congrArg Value.bool ?_; rw [Bool.eq_iff_iff]; simp [guestOk, *]; done) | (refine congrArg Value.bool ?_; rw [Bool.eq_iff_iff]; simp [guestOk, *]; omega))
        ·exact resV (by first | (simp only [guestOk, *, and_self, decide_true, decide_false, Bool.and_true, Bool.true_and, Bool.false_and, Bool.and_false, Bool.not_true, Bool.not_false]; done) | (simp [guestOk, *]; done) | (simp [guestOk, *]; rfl) | (unfold guestOk; rw [Bool.eq_iff_iff.2 (by simp [*])]; done) | (refine congrArg Value.bool ?_; rw [Bool.eq_iff_iff]; simp [guestOk, *]; done) | (refine congrArg Value.bool ?_; rw [Bool.eq_iff_iff]; simp [guestOk, *]; omega))
       ·exact resV (by first | (simp only [guestOk, *, and_self, decide_true, decide_false, Bool.and_true, Bool.true_and, Bool.false_and, Bool.and_false, Bool.not_true, Bool.not_false]; done) | (simp [guestOk, *]; done) | (simp [guestOk, *]; rfl) | (unfold guestOk; rw [Bool.eq_iff_iff.2 (by simp [*])]; done) | (refine congrArg Value.bool ?_; rw [Bool.eq_iff_iff]; simp [guestOk, *]; done) | (refine congrArg Value.bool ?_; rw [Bool.eq_iff_iff]; simp [guestOk, *]; omega))
      ·exact resV (by first | (simp only [guestOk, *, and_self, decide_true, decide_false, Bool.and_true, Bool.true_and, Bool.false_and, Bool.and_false, Bool.not_true, Bool.not_false]; done) | (simp [guestOk, *]; done) | (simp [guestOk, *]; rfl) | (unfold guestOk; rw [Bool.eq_iff_iff.2 (by simp [*])]; done) | (refine congrArg Value.bool ?_; rw [Bool.eq_iff_iff]; simp [guestOk, *]; done) | (refine congrArg Value.bool ?_; rw [Bool.eq_iff_iff]; simp [guestOk, *]; omega))
     ·exact resV (by first | (simp only [guestOk, *, and_self, decide_true, decide_false, Bool.and_true, Bool.true_and, Bool.false_and, Bool.and_false, Bool.not_true, Bool.not_false]; done) | (simp [guestOk, *]; done) | (simp [guestOk, *]; rfl) | (unfold guestOk; rw [Bool.eq_iff_iff.2 (by simp [*])]; done) | (refine congrArg Value.bool ?_; rw [Bool.eq_iff_iff]; simp [guestOk, *]; done) | (refine congrArg Value.bool ?_; rw [Bool.eq_iff_iff]; simp [guestOk, *]; omega))
    ·exact resV (by first | (simp only [guestOk, *, and_self, decide_true, decide_false, Bool.and_true, Bool.true_and, Bool.false_and, Bool.and_false, Bool.not_true, Bool.not_false]; done) | (simp [guestOk, *]; done) | (simp [guestOk, *]; rfl) | (unfold guestOk; rw [Bool.eq_iff_iff.2 (by simp [*])]; done) | (refine congrArg Value.bool ?_; rw [Bool.eq_iff_iff]; simp [guestOk, *]; done) | (refine congrArg Value.bool ?_; rw [Bool.eq_iff_iff]; simp [guestOk, *]; omega))
   ·exact resV (by first | (simp only [guestOk, *, and_self, decide_true, decide_false, Bool.and_true, Bool.true_and, Bool.false_and, Bool.and_false, Bool.not_true, Bool.not_false]; done) | (simp [guestOk, *]; done) | (simp [guestOk, *]; rfl) | (unfold guestOk; rw [Bool.eq_iff_iff.2 (by simp [*])]; done) | (refine congrArg Value.bool ?_; rw [Bool.eq_iff_iff]; simp [guestOk, *]; done) | (refine congrArg Value.bool ?_; rw [Bool.eq_iff_iff]; simp [guestOk, *]; omega))
  ·exact resV (by first | (simp only [guestOk, *, and_self, decide_true, decide_false, Bool.and_true, Bool.true_and, Bool.false_and, Bool.and_false, Bool.not_true, Bool.not_false]; done) | (simp [guestOk, *]; done) | (simp [guestOk, *]; rfl) | (unfold guestOk; rw [Bool.eq_iff_iff.2 (by simp [*])]; done) | (refine congrArg Value.bool ?_; rw [Bool.eq_iff_iff]; simp [guestOk, *]; done) | (refine congrArg Value.bool ?_; rw [Bool.eq_iff_iff]; simp [guestOk, *]; omega))
 ·exact resV (by first | (simp only [guestOk, *, and_self, decide_true, decide_false, Bool.and_true, Bool.true_and, Bool.false_and, Bool.and_false, Bool.not_true, Bool.not_false]; done) | (simp [guestOk, *]; done) | (simp [guestOk, *]; rfl) | (unfold guestOk; rw [Bool.eq_iff_iff.2 (by simp [*])]; done) | (refine congrArg Value.bool ?_; rw [Bool.eq_iff_iff]; simp [guestOk, *]; done) | (refine congrArg Value.bool ?_; rw [Bool.eq_iff_iff]; simp [guestOk, *]; omega))
theorem spec_CanRun_f (g : VGuest) : Fun Tryz.prog 405 [A (rGuest g)] (RV (.bool (canRun g))) := by
 refine Fun.w 12 Tryz.func405 fun w g0 _ => ?_
 refine eqa ?_
 refine cnd (fun hg4 => ?_) (fun hg4 => ?_)
 ·exact resV (by first | (rw [canRun_eq]; simp [*]; done))
 ·exact resV (by first | (rw [canRun_eq]; simp [*]; done))
theorem impl_CanRun_f (g : VGuest) : Fun Tryz.prog 448 [A (rGuest g)] (RV (.bool (canRun g))) := by
 refine Fun.w 12 Tryz.func448 fun w g0 _ => ?_
 refine eqa ?_
 refine cnd (fun hg4 => ?_) (fun hg4 => ?_)
 ·exact resV (by first | (rw [canRun_eq]; simp [*]; done))
 ·exact resV (by first | (rw [canRun_eq]; simp [*]; done))
theorem spec_TakesIrq_f (g : VGuest) : Fun Tryz.prog 406 [A (rGuest g)] (RV (.bool (takesIrq g))) := by
 refine Fun.w 16 Tryz.func406 fun w g0 _ => ?_
 refine callP (spec_CanRun_f _).k ?_
 refine cnd (fun hg2 => ?_) (fun hg2 => ?_)
 ·refine cnd (fun hg7 => ?_) (fun hg7 => ?_)
  ·refine callP (spec_TopIrq_f _).k ?_
   exact resV (by first | (simp only [takesIrq, *, and_self, decide_true, decide_false, Bool.and_true, Bool.true_and, Bool.false_and, Bool.and_false, Bool.not_true, Bool.not_false]; done) | (simp [takesIrq, *]; done))
  ·exact resV (by first | (simp only [takesIrq, *, and_self, decide_true, decide_false, Bool.and_true, Bool.true_and, Bool.false_and, Bool.and_false, Bool.not_true, Bool.not_false]; done) | (simp [takesIrq, *]; done))
 ·exact resV (by first | (simp only [takesIrq, *, and_self, decide_true, decide_false, Bool.and_true, Bool.true_and, Bool.false_and, Bool.and_false, Bool.not_true, Bool.not_false]; done) | (simp [takesIrq, *]; done))
theorem impl_TakesIrq_f (g : VGuest) : Fun Tryz.prog 449 [A (rGuest g)] (RV (.bool (takesIrq g))) := by
 refine Fun.w 16 Tryz.func449 fun w g0 _ => ?_
 refine callP (impl_CanRun_f _).k ?_
 refine cnd (fun hg2 => ?_) (fun hg2 => ?_)
 ·refine cnd (fun hg7 => ?_) (fun hg7 => ?_)
  ·refine callP (impl_TopIrq_f _).k ?_
   exact resV (by first | (simp only [takesIrq, *, and_self, decide_true, decide_false, Bool.and_true, Bool.true_and, Bool.false_and, Bool.and_false, Bool.not_true, Bool.not_false]; done) | (simp [takesIrq, *]; done))
  ·exact resV (by first | (simp only [takesIrq, *, and_self, decide_true, decide_false, Bool.and_true, Bool.true_and, Bool.false_and, Bool.and_false, Bool.not_true, Bool.not_false]; done) | (simp [takesIrq, *]; done))
 ·exact resV (by first | (simp only [takesIrq, *, and_self, decide_true, decide_false, Bool.and_true, Bool.true_and, Bool.false_and, Bool.and_false, Bool.not_true, Bool.not_false]; done) | (simp [takesIrq, *]; done))
theorem spec_Saw_f (g : VGuest) (n : Int) [Q (SmGuest g)] : Fun Tryz.prog 407 [A (rGuest g), I n] (RG [.a (rGuest (saw g n))]) := by
 refine Fun.w 18 Tryz.func407 fun w g0 _ => ?_
 refine callG (spec_l15Copy_f _).k ?_
 refine len ?_
 refine cnd (fun hb => ?_) (fun hb => ?_)
 ·first | refine appPq ?_ | refine appP ?_
  exact (by first | (rw [show saw g n = g from if_neg (by omega)]; rfl) | (rw [saw_row (by omega)]; rfl))
 ·exact (by first | (rw [show saw g n = g from if_neg (by omega)]; rfl) | (rw [saw_row (by omega)]; rfl))
theorem impl_Saw_f (g : VGuest) (n : Int) [Q (SmGuest g)] : Fun Tryz.prog 451 [A (rGuest g), I n] (RG [.a (rGuest (saw g n))]) := by
 refine Fun.w 19 Tryz.func451 fun w g0 _ => ?_
 refine callG (impl_copyGuest_f _).k ?_
 refine len ?_
 refine cnd (fun hb => ?_) (fun hb => ?_)
 ·first | refine appPq ?_ | refine appP ?_
  exact (by first | (rw [show saw g n = g from if_neg (by omega)]; rfl) | (rw [saw_row (by omega)]; rfl))
 ·exact (by first | (rw [show saw g n = g from if_neg (by omega)]; rfl) | (rw [saw_row (by omega)]; rfl))
theorem spec_Stopped_f (g : VGuest) (e : VExit) [Q (SmGuest g)] : Fun Tryz.prog 318 [A (rGuest g), A (rExit e)] (RG [.a (rGuest (stopped g e))]) := by
 refine Fun.w 10 Tryz.func318 fun w g0 _ => ?_
 refine callG (spec_l15Copy_f _).k ?_
 exact rfl
theorem impl_Stopped_f (g : VGuest) (e : VExit) [Q (SmGuest g)] : Fun Tryz.prog 368 [A (rGuest g), A (rExit e)] (RG [.a (rGuest (stopped g e))]) := by
 refine Fun.w 11 Tryz.func368 fun w g0 _ => ?_
 refine callG (impl_copyGuest_f _).k ?_
 exact rfl
end Go.Proofs.YteelmdpahpggkaaGreat.T

