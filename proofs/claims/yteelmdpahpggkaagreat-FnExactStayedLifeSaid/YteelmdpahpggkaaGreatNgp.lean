
import Derived.Test.YteelmdpahpggkaaGreatNfp
namespace Go.Proofs.YteelmdpahpggkaaGreat.T
open Go
set_option linter.unusedVariables false
set_option linter.unusedSimpArgs false
set_option maxRecDepth 100000
set_option maxHeartbeats 1000000
instance (g : VGuest) (n : Int) [h : Q (SmGuest g)] : Q (SmGuest (saw g n)) := ⟨by
 unfold saw
 split
 ·refine ⟨h.h.1, h.h.2.1, h.h.2.2.1, ?_⟩
  show (g.Seen ++ [n]).length ≤ _
  rw [List.length_append, List.length_singleton]
  omega
 ·exact h.h⟩
instance (g : VGuest) (e : VExit) [h : Q (SmGuest g)] : Q (SmGuest (stopped g e)) := ⟨h.h⟩
instance (g : VGuest) [h : Q (SmGuest g)] : Q (SmGuest (moved g)) := ⟨h.h⟩
instance (g : VGuest) [h : Q (SmGuest g)] : Q (SmGuest (held g)) := ⟨h.h⟩
instance (g : VGuest) (v : Int) [h : Q (SmGuest g)] : Q (SmGuest (loaded g v)) := ⟨(inferInstance : Q (SmGuest (moved (saw { g with A := v } v)))).h⟩
instance (g : VGuest) [h : Q (SmGuest g)] : Q (SmGuest (interrupted g)) := ⟨by
 unfold interrupted
 split
 ·exact (inferInstance : Q (SmGuest (saw { g with Pending := g.Pending - 2 ^ (topIrq g.Pending).toNat } (100 + topIrq g.Pending)))).h
 ·exact h.h⟩
instance (g : VGuest) [h : Q (SmGuest g)] : Q (SmGuest (plainly g)) := ⟨by
 unfold plainly
 simp only
 split
 ·exact h.h
 ·split
  ·split
   ·exact h.h
   ·split
    ·exact h.h
    ·split <;> exact h.h
  ·exact h.h⟩
theorem saw_pc (g : VGuest) (n : Int) : (saw g n).Pc = g.Pc := by unfold saw; split <;> rfl
instance (g : VGuest) (n a : Int) [h : Q (a ≤ g.Pc)] : Q (a ≤ (saw g n).Pc) := ⟨by rw [saw_pc]; exact h.h⟩
theorem moved_lo {g : VGuest} (h : g.Pc ≥ 12) : moved g = { g with Pc := 12 } := by unfold moved; rw [if_pos h]
theorem moved_up {g : VGuest} (h : ¬ g.Pc ≥ 12) : moved g = { g with Pc := g.Pc + 1 } := by unfold moved; rw [if_neg h]
theorem takes_top0 {p : Int} (h : 0 ≤ topIrq p) : topIrq p ≤ 7 := (take_irq h).2.2.2.2.2.1
theorem spec_TakeIrq_t {p : Int} (h : 0 ≤ topIrq p) : Fun Tryz.prog 334 [I p] (RG [.c (.v (.int .i64 (p - 2 ^ (topIrq p).toNat))), .c (.v (.int .i64 (topIrq p))), .c (.v (.bool true))]) := by
 have h1 := spec_TakeIrq_f p
 rw [(take_irq h).2.2.2.2.2.2] at h1
 exact h1
theorem impl_TakeIrq_t {p : Int} (h : 0 ≤ topIrq p) : Fun Tryz.prog 438 [I p] (RG [.c (.v (.int .i64 (p - 2 ^ (topIrq p).toNat))), .c (.v (.int .i64 (topIrq p))), .c (.v (.bool true))]) := by
 have h1 := impl_TakeIrq_f p
 rw [(take_irq h).2.2.2.2.2.2] at h1
 exact h1
theorem takes_top {g : VGuest} (h : takesIrq g = true) : 0 ≤ topIrq g.Pending := by
 simp only [takesIrq, Bool.and_eq_true, decide_eq_true_eq] at h
 exact h.2
theorem spec_WantOf_f (g : VGuest) : Fun Tryz.prog 311 [A (rGuest g)] (RV (.int .i64 (wantOf g))) := by
 refine Fun.w 24 Tryz.func311 fun w g0 _ => ?_
 refine callP (spec_CanRun_f _).k ?_
 refine cnd (fun hb => ?_) (fun hb => ?_)
 ·exact resV (by first | (unfold wantOf; simp [*]; done))
 ·refine callP (spec_TakesIrq_f _).k ?_
  refine cnd (fun hb2 => ?_) (fun hb2 => ?_)
  ·exact resV (by first | (unfold wantOf; simp [*]; done))
  ·refine callP (spec_InsAt_f _ _).k ?_
   refine cnd (fun hb3 => ?_) (fun hb3 => ?_)
   ·exact resV (by first | (unfold wantOf; simp [*]; done))
   ·refine cnd (fun hb4 => ?_) (fun hb4 => ?_)
    ·exact resV (by first | (unfold wantOf; simp [*]; done))
    ·refine cnd (fun hb5 => ?_) (fun hb5 => ?_)
     ·exact resV (by first | (unfold wantOf; simp [*]; done))
     ·refine cnd (fun hb6 => ?_) (fun hb6 => ?_)
      ·exact resV (by first | (unfold wantOf; simp [*]; done))
      ·refine cnd (fun hb7 => ?_) (fun hb7 => ?_)
       ·exact resV (by first | (unfold wantOf; simp [*]; done))
       ·exact resV (by first | (unfold wantOf; simp [*]; done))
theorem impl_WantOf_f (g : VGuest) : Fun Tryz.prog 363 [A (rGuest g)] (RV (.int .i64 (wantOf g))) := by
 refine Fun.w 26 Tryz.func363 fun w g0 _ => ?_
 refine callP (impl_CanRun_f _).k ?_
 refine cnd (fun hb => ?_) (fun hb => ?_)
 ·exact resV (by first | (unfold wantOf; simp [*]; done))
 ·refine callP (impl_TakesIrq_f _).k ?_
  refine cnd (fun hb2 => ?_) (fun hb2 => ?_)
  ·exact resV (by first | (unfold wantOf; simp [*]; done))
  ·refine callP (impl_InsAt_f _ _).k ?_
   refine cnd (fun hb3 => ?_) (fun hb3 => ?_)
   ·exact resV (by first | (unfold wantOf; simp [*]; done))
   ·refine cnd (fun hb4 => ?_) (fun hb4 => ?_)
    ·exact resV (by first | (unfold wantOf; simp [*]; done))
    ·refine cnd (fun hb5 => ?_) (fun hb5 => ?_)
     ·exact resV (by first | (unfold wantOf; simp [*]; done))
     ·refine cnd (fun hb6 => ?_) (fun hb6 => ?_)
      ·exact resV (by first | (unfold wantOf; simp [*]; done))
      ·refine cnd (fun hb7 => ?_) (fun hb7 => ?_)
       ·exact resV (by first | (unfold wantOf; simp [*]; done))
       ·exact resV (by first | (unfold wantOf; simp [*]; done))
theorem spec_Interrupted_f (g : VGuest) [Q (SmGuest g)] : Fun Tryz.prog 312 [A (rGuest g)] (RG [.a (rGuest (interrupted g))]) := by
 refine Fun.w 24 Tryz.func312 fun w g0 _ => ?_
 refine callP (spec_TakesIrq_f _).k ?_
 refine cnd (fun hb => ?_) (fun hb => ?_)
 ·refine callG (spec_l15Copy_f _).k ?_
  exact (by first | (rw [show interrupted g = g from if_neg (by simp [*])]; rfl) | (rw [show interrupted g = saw _ _ from if_pos (by assumption)]; rfl))
 ·have ht0 := takes_top (g := g) (by assumption)
  have ht7 := takes_top0 ht0
  refine callG (spec_TakeIrq_t (takes_top (by assumption))).k ?_
  refine rng ?_
  refine callG (spec_Saw_f { g with Pending := g.Pending - 2 ^ (topIrq g.Pending).toNat } (100 + topIrq g.Pending)).k ?_
  exact (by first | (rw [show interrupted g = g from if_neg (by simp [*])]; rfl) | (rw [show interrupted g = saw _ _ from if_pos (by assumption)]; rfl))
theorem impl_Interrupted_f (g : VGuest) [Q (SmGuest g)] : Fun Tryz.prog 417 [A (rGuest g)] (RG [.a (rGuest (interrupted g))]) := by
 refine Fun.w 24 Tryz.func417 fun w g0 _ => ?_
 refine callP (impl_TakesIrq_f _).k ?_
 refine cnd (fun hb => ?_) (fun hb => ?_)
 ·refine callG (impl_copyGuest_f _).k ?_
  exact (by first | (rw [show interrupted g = g from if_neg (by simp [*])]; rfl) | (rw [show interrupted g = saw _ _ from if_pos (by assumption)]; rfl))
 ·have ht0 := takes_top (g := g) (by assumption)
  have ht7 := takes_top0 ht0
  refine callG (impl_TakeIrq_t (takes_top (by assumption))).k ?_
  refine rng ?_
  refine callG (impl_Saw_f { g with Pending := g.Pending - 2 ^ (topIrq g.Pending).toNat } (100 + topIrq g.Pending)).k ?_
  exact (by first | (rw [show interrupted g = g from if_neg (by simp [*])]; rfl) | (rw [show interrupted g = saw _ _ from if_pos (by assumption)]; rfl))
theorem spec_Moved_f (g : VGuest) [Q (SmGuest g)] [hpc : Q (-9223372036854775808 ≤ g.Pc)] : Fun Tryz.prog 330 [A (rGuest g)] (RG [.a (rGuest (moved g))]) := by
 refine Fun.w 14 Tryz.func330 fun w g0 _ => ?_
 have hpc0 := hpc.h
 refine callG (spec_l15Copy_f _).k ?_
 refine cnd (fun hb => ?_) (fun hb => ?_)
 ·exact (by first | (rw [moved_lo (by omega)]; rfl) | (rw [moved_up (by omega)]; rfl))
 ·refine rng ?_
  exact (by first | (rw [moved_lo (by omega)]; rfl) | (rw [moved_up (by omega)]; rfl))
theorem impl_Moved_f (g : VGuest) [Q (SmGuest g)] [hpc : Q (-9223372036854775808 ≤ g.Pc)] : Fun Tryz.prog 425 [A (rGuest g)] (RG [.a (rGuest (moved g))]) := by
 refine Fun.w 15 Tryz.func425 fun w g0 _ => ?_
 have hpc0 := hpc.h
 refine callG (impl_copyGuest_f _).k ?_
 refine cnd (fun hb => ?_) (fun hb => ?_)
 ·exact (by first | (rw [moved_lo (by omega)]; rfl) | (rw [moved_up (by omega)]; rfl))
 ·refine rng ?_
  exact (by first | (rw [moved_lo (by omega)]; rfl) | (rw [moved_up (by omega)]; rfl))
theorem spec_Address_f (g : VGuest) : Fun Tryz.prog 314 [A (rGuest g)] (RV (.int .i64 (address g))) := by
 refine Fun.w 18 Tryz.func314 fun w g0 _ => ?_
 refine callP (spec_WantOf_f _).k ?_
 refine cnd (fun hg2 => ?_) (fun hg2 => ?_)
 ·refine cnd (fun hb => ?_) (fun hb => ?_)
  ·exact resV (by first | (unfold address; rw [if_pos (by omega)]) | (unfold address; rw [if_neg (by omega)]))
  ·refine callP (spec_InsAt_f _ _).k ?_
   exact resV (by first | (unfold address; rw [if_pos (by omega)]) | (unfold address; rw [if_neg (by omega)]))
 ·refine callP (spec_InsAt_f _ _).k ?_
  exact resV (by first | (unfold address; rw [if_pos (by omega)]) | (unfold address; rw [if_neg (by omega)]))
theorem impl_Address_f (g : VGuest) : Fun Tryz.prog 364 [A (rGuest g)] (RV (.int .i64 (address g))) := by
 refine Fun.w 18 Tryz.func364 fun w g0 _ => ?_
 refine callP (impl_WantOf_f _).k ?_
 refine cnd (fun hg2 => ?_) (fun hg2 => ?_)
 ·refine cnd (fun hb => ?_) (fun hb => ?_)
  ·exact resV (by first | (unfold address; rw [if_pos (by omega)]) | (unfold address; rw [if_neg (by omega)]))
  ·refine callP (impl_InsAt_f _ _).k ?_
   exact resV (by first | (unfold address; rw [if_pos (by omega)]) | (unfold address; rw [if_neg (by omega)]))
 ·refine callP (impl_InsAt_f _ _).k ?_
  exact resV (by first | (unfold address; rw [if_pos (by omega)]) | (unfold address; rw [if_neg (by omega)]))
theorem spec_Stored_f (g : VGuest) [Q (SmGuest g)] [hpc : Q (-9223372036854775808 ≤ g.Pc)] : Fun Tryz.prog 322 [A (rGuest g)] (RG [.a (rGuest (moved g))]) := by
 refine Fun.w 5 Tryz.func322 fun w g0 _ => ?_
 refine callG (spec_Moved_f _).k ?_
 exact rfl
theorem impl_Stored_f (g : VGuest) [Q (SmGuest g)] [hpc : Q (-9223372036854775808 ≤ g.Pc)] : Fun Tryz.prog 372 [A (rGuest g)] (RG [.a (rGuest (moved g))]) := by
 refine Fun.w 5 Tryz.func372 fun w g0 _ => ?_
 refine callG (impl_Moved_f _).k ?_
 exact rfl
theorem spec_Held_f (g : VGuest) [Q (SmGuest g)] [hpc : Q (-9223372036854775808 ≤ g.Pc)] : Fun Tryz.prog 331 [A (rGuest g)] (RG [.a (rGuest (held g))]) := by
 refine Fun.w 6 Tryz.func331 fun w g0 _ => ?_
 refine callG (spec_Moved_f { g with Halted := true }).k ?_
 exact rfl
theorem impl_Held_f (g : VGuest) [Q (SmGuest g)] [hpc : Q (-9223372036854775808 ≤ g.Pc)] : Fun Tryz.prog 426 [A (rGuest g)] (RG [.a (rGuest (held g))]) := by
 refine Fun.w 6 Tryz.func426 fun w g0 _ => ?_
 refine callG (impl_Moved_f { g with Halted := true }).k ?_
 exact rfl
theorem spec_Loaded_f (g : VGuest) (v : Int) [Q (SmGuest g)] [hpc : Q (-9223372036854775808 ≤ g.Pc)] : Fun Tryz.prog 323 [A (rGuest g), I v] (RG [.a (rGuest (loaded g v))]) := by
 refine Fun.w 11 Tryz.func323 fun w g0 _ => ?_
 refine callG (spec_Saw_f { g with A := v } v).k ?_
 refine callG (spec_Moved_f (saw { g with A := v } v)).k ?_
 exact rfl
theorem impl_Loaded_f (g : VGuest) (v : Int) [Q (SmGuest g)] [hpc : Q (-9223372036854775808 ≤ g.Pc)] : Fun Tryz.prog 373 [A (rGuest g), I v] (RG [.a (rGuest (loaded g v))]) := by
 refine Fun.w 11 Tryz.func373 fun w g0 _ => ?_
 refine callG (impl_Saw_f { g with A := v } v).k ?_
 refine callG (impl_Moved_f (saw { g with A := v } v)).k ?_
 exact rfl
end Go.Proofs.YteelmdpahpggkaaGreat.T

