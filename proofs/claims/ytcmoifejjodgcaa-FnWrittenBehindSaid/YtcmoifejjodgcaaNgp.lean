
import Derived.Test.YtcmoifejjodgcaaNdp
namespace Go.Proofs.Ytcmoifejjodgcaa.T
open Go
set_option linter.unusedVariables false
set_option linter.unusedSimpArgs false
set_option maxRecDepth 100000
set_option maxHeartbeats 1000000
theorem pow8 {n : Nat} (h : n ≤ 7) : IntKind.i64.wrap (1 * 2 ^ n) = 2 ^ n := by
 have : ∀ m : Fin 8, IntKind.i64.wrap (1 * 2 ^ m.1) = 2 ^ m.1 := by decide +kernel
 exact this ⟨n, by omega⟩
theorem shl {y : Int} {k : Int → Prop} (c : k (2 ^ y.toNat)) (h : 0 ≤ y ∧ y ≤ 7 := by omega) : ShlW .i64 1 y k := ⟨y.toNat, _, by omega, by show _ ≤ 64; omega, pow8 (by omega), c⟩
theorem shr {x y : Int} {k : Int → Prop} (c : k (x.fdiv (2 ^ y.toNat))) (h : 0 ≤ y ∧ y ≤ 7 := by omega) : ShrW .i64 x y k := ⟨y.toNat, _, by omega, by show _ ≤ 64; omega, rfl, c⟩
end Go.Proofs.Ytcmoifejjodgcaa.T

namespace Go.Proofs.Ytcmoifejjodgcaa.T
open Go
set_option linter.unusedVariables false
set_option linter.unusedSimpArgs false
set_option maxRecDepth 100000
set_option maxHeartbeats 1000000
instance (x : List VIns) [h : Q (SmInsS x)] : Q (SmGuest (guestNew x)) := ⟨h.h, by simp [SmSlotS, guestNew, tableNew], by simp [SmSlotS, guestNew, tableNew], by simp [SmIntS, guestNew]⟩
theorem impl_copyGuest_f (g : VGuest) [Q (SmGuest g)] : Fun Try.prog 64 [A (rGuest g)] (RG [.a (rGuest (g))]) := by
 refine Fun.w 20 Try.func64 fun w g0 _ => ?_
 refine callL (impl_copyProg_f _).k ?_
 refine callL (impl_copyTable_f _).k ?_
 refine callL (impl_copyTable_f _).k ?_
 refine callL (impl_copyInts_f _).k ?_
 exact rfl
theorem spec_TableNew_f (n : Nat) (hn : n ≤ 24 := by omega) : Fun Try.prog 35 [I n] (RL 2 ((tableNew n).map dSlot)) := by
 refine Fun.w 17 Try.func35 fun w g0 _ => ?_
 refine callP (spec_Brought_n hn).k ?_
 refine loopA [2, 3, 16] [3] [3] (fun (i : Nat) => [.set 4 (I ((n : Int) - i))]) (fun (i : Nat) => [(3, ⟨false, [.own (.sl 2 ((List.replicate i noSlot).map dSlot))]⟩)]) (fun (i : Nat) => i ≤ n) (fun (i : Nat) => n - i) (0) (Nat.zero_le _) ?_
 refine ⟨hda, fun i hyp N1 hN1 => ?_⟩
 have hyp : i ≤ n := hyp
 refine cnd (fun hb => ?_) (fun hb => ?_)
 ·refine callP (spec_NoSlot_f).k ?_
  first | refine appPq ?_ | refine appP ?_
  refine rng ?_
  refine hN1 _ _ _ ?_
  refine nxa (i + 1) (by omega) (by repeat' first | exact rfl | refine And.intro ?_ ?_ | exact True.intro | (refine eqS ?_; simp [List.take_add_one, List.set_set, rangeF_succ, List.replicate_succ', *]; done) | (refine eqS ?_; exact congrArg (fun z : Int => (I z : TS)) (by omega)))
 ·refine hN1 _ _ _ ?_
  exact (by rw [show i = n by omega]; rfl)
theorem impl_GuestOk_f (g : VGuest) : Fun Try.prog 65 [A (rGuest g)] (RV (.bool (guestOk g))) := by
 refine Fun.w 47 Try.func65 fun w g0 _ => ?_
 refine callP (impl_ProgOk_f _).k ?_
 refine cnd (fun hg3 => ?_) (fun hg3 => ?_)
 ·refine callP (impl_within_f _ _ _).k ?_
  refine cnd (fun hg8 => ?_) (fun hg8 => ?_)
  ·refine callP (impl_within_f _ _ _).k ?_
   refine cnd (fun hg13 => ?_) (fun hg13 => ?_)
   ·refine callP (impl_TableOk_f _ _ _).k ?_
    refine cnd (fun hg18 => ?_) (fun hg18 => ?_)
    ·refine callP (impl_TableOk_f _ _ _).k ?_
     refine cnd (fun hg23 => ?_) (fun hg23 => ?_)
     ·refine callP (impl_CtlOk_f _).k ?_
      refine cnd (fun hg28 => ?_) (fun hg28 => ?_)
      ·refine callP (impl_PendOk_f _).k ?_
       refine cnd (fun hg33 => ?_) (fun hg33 => ?_)
       ·refine callP (impl_ExitOk_f _).k ?_
        refine cnd (fun hg38 => ?_) (fun hg38 => ?_)
        ·refine len ?_
         exact resV (by first | (simp only [guestOk, *, and_self, decide_true, decide_false, Bool.and_true, Bool.true_and, Bool.false_and, Bool.and_false, Bool.not_true, Bool.not_false]; done) | (simp [guestOk, *]; done) | (simp [guestOk, *]; rfl) | (unfold guestOk; rw [Bool.eq_iff_iff.2 (by simp [*])]; done) | (refine congrArg Value.bool ?_; rw [Bool.eq_iff_iff]; simp [guestOk, *]; done) | (refine congrArg Value.bool ?_; rw [Bool.eq_iff_iff]; simp [guestOk, *]; omega))
        ·exact resV (by first | (simp only [guestOk, *, and_self, decide_true, decide_false, Bool.and_true, Bool.true_and, Bool.false_and, Bool.and_false, Bool.not_true, Bool.not_false]; done) | (simp [guestOk, *]; done) | (simp [guestOk, *]; rfl) | (unfold guestOk; rw [Bool.eq_iff_iff.2 (by simp [*])]; done) | (refine congrArg Value.bool ?_; rw [Bool.eq_iff_iff]; simp [guestOk, *]; done) | (refine congrArg Value.bool ?_; rw [Bool.eq_iff_iff]; simp [guestOk, *]; omega))
       ·exact resV (by first | (simp only [guestOk, *, and_self, decide_true, decide_false, Bool.and_true, Bool.true_and, Bool.false_and, Bool.and_false, Bool.not_true, Bool.not_false]; done) | (simp [guestOk, *]; done) | (simp [guestOk, *]; rfl) | (unfold guestOk; rw [Bool.eq_iff_iff.2 (by simp [*])]; done) | (refine congrArg Value.bool ?_; rw [Bool.eq_iff_iff]; simp [guestOk, *]; done) | (refine congrArg Value.bool ?_; rw [Bool.eq_iff_iff]; simp [guestOk, *]; omega))
      ·exact resV (by first | (simp only [guestOk, *, and_self, decide_true, decide_false, Bool.and_true, Bool.true_and, Bool.false_and, Bool.and_false, Bool.not_true, Bool.not_false]; done) | (simp [guestOk, *]; done) | (simp [guestOk, *]; rfl) | (unfold guestOk; rw [Bool.eq_iff_iff.2 (by simp [*])]; done) | (refine congrArg Value.bool ?_; rw [Bool.eq_iff_iff]; simp [guestOk, *]; done) | (refine congrArg Value.bool ?_; rw [Bool.eq_iff_iff]; simp [guestOk, *]; omega))
     ·exact resV (by first | (simp only [guestOk, *, and_self, decide_true, decide_false, Bool.and_true, Bool.true_and, Bool.false_and, Bool.and_false, Bool.not_true, Bool.not_false]; done) | (simp [guestOk, *]; done) | (simp [guestOk, *]; rfl) | (unfold guestOk; rw [Bool.eq_iff_iff.2 (by simp [*])]; done) | (refine congrArg Value.bool ?_; rw [Bool.eq_iff_iff]; simp [guestOk, *]; done) | (refine congrArg Value.bool ?_; rw [Bool.eq_iff_iff]; simp [guestOk, *]; omega))
    ·exact resV (by first | (simp only [guestOk, *, and_self, decide_true, decide_false, Bool.and_true, Bool.true_and, Bool.false_and, Bool.and_false, Bool.not_true, Bool.not_false]; done) | (simp [guestOk, *]; done) | (simp [guestOk, *]; rfl) | (unfold guestOk; rw [Bool.eq_iff_iff.2 (by simp [*])]; done) | (refine congrArg Value.bool ?_; rw [Bool.eq_iff_iff]; simp [guestOk, *]; done) | (refine congrArg Value.bool ?_; rw [Bool.eq_iff_iff]; simp [guestOk, *]; omega))
   ·exact resV (by first | (simp only [guestOk, *, and_self, decide_true, decide_false, Bool.and_true, Bool.true_and, Bool.false_and, Bool.and_false, Bool.not_true, Bool.not_false]; done) | (simp [guestOk, *]; done) | (simp [guestOk, *]; rfl) | (unfold guestOk; rw [Bool.eq_iff_iff.2 (by simp [*])]; done) | (refine congrArg Value.bool ?_; rw [Bool.eq_iff_iff]; simp [guestOk, *]; done) | (refine congrArg Value.bool ?_; rw [Bool.eq_iff_iff]; simp [guestOk, *]; omega))
  ·exact resV (by first | (simp only [guestOk, *, and_self, decide_true, decide_false, Bool.and_true, Bool.true_and, Bool.false_and, Bool.and_false, Bool.not_true, Bool.not_false]; done) | (simp [guestOk, *]; done) | (simp [guestOk, *]; rfl) | (unfold guestOk; rw [Bool.eq_iff_iff.2 (by simp [*])]; done) | (refine congrArg Value.bool ?_; rw [Bool.eq_iff_iff]; simp [guestOk, *]; done) | (refine congrArg Value.bool ?_; rw [Bool.eq_iff_iff]; simp [guestOk, *]; omega))
 ·exact resV (by first | (simp only [guestOk, *, and_self, decide_true, decide_false, Bool.and_true, Bool.true_and, Bool.false_and, Bool.and_false, Bool.not_true, Bool.not_false]; done) | (simp [guestOk, *]; done) | (simp [guestOk, *]; rfl) | (unfold guestOk; rw [Bool.eq_iff_iff.2 (by simp [*])]; done) | (refine congrArg Value.bool ?_; rw [Bool.eq_iff_iff]; simp [guestOk, *]; done) | (refine congrArg Value.bool ?_; rw [Bool.eq_iff_iff]; simp [guestOk, *]; omega))
end Go.Proofs.Ytcmoifejjodgcaa.T

namespace Go.Proofs.Ytcmoifejjodgcaa.T
open Go
set_option linter.unusedVariables false
set_option linter.unusedSimpArgs false
set_option maxRecDepth 100000
set_option maxHeartbeats 1000000
instance (g : VGuest) (n : Int) [h : Q (SmGuest g)] : Q (SmGuest (saw g n)) := ⟨by
 unfold saw
 split
 ·refine ⟨h.h.1, h.h.2.1, h.h.2.2.1, ?_⟩
  show (g.Seen ++ [n]).length ≤ _
  rw [List.length_append, List.length_singleton]
  omega
 ·exact h.h⟩
instance (g : VGuest) (e : VExit) [h : Q (SmGuest g)] : Q (SmGuest (stopped g e)) := ⟨h.h⟩
instance (g : VGuest) [h : Q (SmGuest g)] : Q (SmGuest (moved g)) := ⟨h.h⟩
instance (g : VGuest) [h : Q (SmGuest g)] : Q (SmGuest (held g)) := ⟨h.h⟩
instance (g : VGuest) (v : Int) [h : Q (SmGuest g)] : Q (SmGuest (loaded g v)) := ⟨(inferInstance : Q (SmGuest (moved (saw { g with A := v } v)))).h⟩
instance (g : VGuest) [h : Q (SmGuest g)] : Q (SmGuest (interrupted g)) := ⟨by
 unfold interrupted
 split
 ·exact (inferInstance : Q (SmGuest (saw { g with Pending := g.Pending - 2 ^ (topIrq g.Pending).toNat } (100 + topIrq g.Pending)))).h
 ·exact h.h⟩
instance (g : VGuest) [h : Q (SmGuest g)] : Q (SmGuest (plainly g)) := ⟨by
 unfold plainly
 simp only
 split
 ·exact h.h
 ·split
  ·split
   ·exact h.h
   ·split
    ·exact h.h
    ·split <;> exact h.h
  ·exact h.h⟩
theorem saw_pc (g : VGuest) (n : Int) : (saw g n).Pc = g.Pc := by unfold saw; split <;> rfl
instance (g : VGuest) (n a : Int) [h : Q (a ≤ g.Pc)] : Q (a ≤ (saw g n).Pc) := ⟨by rw [saw_pc]; exact h.h⟩
end Go.Proofs.Ytcmoifejjodgcaa.T

