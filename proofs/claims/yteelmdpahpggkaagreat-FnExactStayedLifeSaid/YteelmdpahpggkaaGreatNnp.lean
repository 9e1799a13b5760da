
import Derived.Test.YteelmdpahpggkaaGreatNgp
import Derived.Test.YteelmdpahpggkaaGreatRop
import Derived.Test.YteelmdpahpggkaaGreatRows
import Derived.Shelf.Lays
import Derived.Shelf.Bits.Mul64
namespace Go.Proofs.YteelmdpahpggkaaGreat.T
open Go
set_option linter.unusedVariables false
set_option linter.unusedSimpArgs false
set_option maxRecDepth 100000
set_option maxHeartbeats 8000000
theorem trapped_out {g : VGuest} {w : Int} (h : w = 5) : trapped g w = stopped g (outExit (insAt g.Prog g.Pc).X) := if_pos h
theorem trapped_halt {g : VGuest} {w : Int} (h : ¬ w = 5) : trapped g w = stopped g haltExit := if_neg h
theorem pl_no {g : VGuest} (h : ¬ wantOf g = 2) : plainly g = g := by unfold plainly; rw [if_pos h]
theorem pl_if {g : VGuest} (h : wantOf g = 2) (h1 : (0 ≤ g.A ∧ g.A ≤ 99) ∧ (0 ≤ (insAt g.Prog g.Pc).X ∧ (insAt g.Prog g.Pc).X ≤ 99)) : plainly g = if (insAt g.Prog g.Pc).Op = 1 then moved { g with A := (insAt g.Prog g.Pc).X } else if (insAt g.Prog g.Pc).Op = 2 then moved { g with A := (g.A + (insAt g.Prog g.Pc).X).tmod 100 } else if (insAt g.Prog g.Pc).Op = 8 ∧ g.A = 0 then { g with Pc := (insAt g.Prog g.Pc).X } else moved g := by
 unfold plainly
 rw [if_neg (by omega)]
 simp only
 rw [if_pos (by rw [Bool.and_eq_true]; exact ⟨decide_eq_true h1.1, decide_eq_true h1.2⟩)]
theorem pl_off {g : VGuest} (h : wantOf g = 2) (h1 : ¬ ((0 ≤ g.A ∧ g.A ≤ 99) ∧ (0 ≤ (insAt g.Prog g.Pc).X ∧ (insAt g.Prog g.Pc).X ≤ 99))) : plainly g = moved g := by
 unfold plainly
 rw [if_neg (by omega)]
 simp only
 rw [if_neg (fun e => h1 (by rw [Bool.and_eq_true] at e; exact ⟨of_decide_eq_true e.1, of_decide_eq_true e.2⟩))]
theorem pl_set {g : VGuest} (h : wantOf g = 2) (h1 : (0 ≤ g.A ∧ g.A ≤ 99) ∧ (0 ≤ (insAt g.Prog g.Pc).X ∧ (insAt g.Prog g.Pc).X ≤ 99)) (h2 : (insAt g.Prog g.Pc).Op = 1) : plainly g = moved { g with A := (insAt g.Prog g.Pc).X } := by rw [pl_if h h1, if_pos h2]
theorem pl_add {g : VGuest} (h : wantOf g = 2) (h1 : (0 ≤ g.A ∧ g.A ≤ 99) ∧ (0 ≤ (insAt g.Prog g.Pc).X ∧ (insAt g.Prog g.Pc).X ≤ 99)) (h2 : (insAt g.Prog g.Pc).Op = 2) : plainly g = moved { g with A := (g.A + (insAt g.Prog g.Pc).X).tmod 100 } := by rw [pl_if h h1, if_neg (by omega), if_pos h2]
theorem pl_jump {g : VGuest} (h : wantOf g = 2) (h1 : (0 ≤ g.A ∧ g.A ≤ 99) ∧ (0 ≤ (insAt g.Prog g.Pc).X ∧ (insAt g.Prog g.Pc).X ≤ 99)) (h2 : (insAt g.Prog g.Pc).Op = 8 ∧ g.A = 0) : plainly g = { g with Pc := (insAt g.Prog g.Pc).X } := by rw [pl_if h h1, if_neg (by omega), if_neg (by omega), if_pos h2]
theorem pl_else {g : VGuest} (h : wantOf g = 2) (h1 : (0 ≤ g.A ∧ g.A ≤ 99) ∧ (0 ≤ (insAt g.Prog g.Pc).X ∧ (insAt g.Prog g.Pc).X ≤ 99)) (h2 : ¬ (insAt g.Prog g.Pc).Op = 1 ∧ ¬ (insAt g.Prog g.Pc).Op = 2 ∧ ¬ ((insAt g.Prog g.Pc).Op = 8 ∧ g.A = 0)) : plainly g = moved g := by rw [pl_if h h1, if_neg h2.1, if_neg h2.2.1, if_neg h2.2.2]
def trapBy (x : VGuest) (traps want : Int) : VGuest × Bool :=
 if want = 6 then (stopped x (callExit (insAt x.Prog x.Pc).X), false) else if want = 5 ∧ hasTrap traps 1 = true then (stopped x (outExit (insAt x.Prog x.Pc).X), false)
 else if want = 7 ∧ hasTrap traps 2 = true then (stopped x haltExit, false) else if want = 7 then (held x, true) else (moved x, true)
theorem tb_call {x : VGuest} {t w : Int} (h : w = 6) : trapBy x t w = (stopped x (callExit (insAt x.Prog x.Pc).X), false) := if_pos h
theorem tb_out {x : VGuest} {t w : Int} (h : w = 5) (h1 : hasTrap t 1 = true) : trapBy x t w = (stopped x (outExit (insAt x.Prog x.Pc).X), false) := by unfold trapBy; rw [if_neg (by omega), if_pos ⟨h, h1⟩]
theorem tb_halt {x : VGuest} {t w : Int} (h : w = 7) (h1 : hasTrap t 2 = true) : trapBy x t w = (stopped x haltExit, false) := by unfold trapBy; rw [if_neg (by omega), if_neg (by omega), if_pos ⟨h, h1⟩]
theorem tb_held {x : VGuest} {t w : Int} (h : w = 7) (h1 : hasTrap t 2 = false) : trapBy x t w = (held x, true) := by unfold trapBy; rw [if_neg (by omega), if_neg (by omega), if_neg (fun e => by rw [h1] at e; exact absurd e.2 (by decide)), if_pos h]
theorem tb_moved {x : VGuest} {t w : Int} (h : ¬ w = 6 ∧ ¬ w = 7) (h1 : ¬ w = 5 ∨ hasTrap t 1 = false) : trapBy x t w = (moved x, true) := by
 unfold trapBy
 rw [if_neg h.1, if_neg (fun e => by rcases h1 with h1 | h1; exact h1 e.1; rw [h1] at e; exact absurd e.2 (by decide)), if_neg (fun e => h.2 e.1), if_neg h.2]
theorem spec_Plainly_f (g : VGuest) [Q (SmGuest g)] [hpc : Q (-9223372036854775808 ≤ g.Pc)] : Fun Tryz.prog 313 [A (rGuest g)] (RG [.a (rGuest (plainly g))]) := by
 refine Fun.w 67 Tryz.func313 fun w g0 _ => ?_
 refine callP (spec_WantOf_f _).k ?_
 refine cnd (fun hb => ?_) (fun hb => ?_)
 ·refine callG (spec_l15Copy_f _).k ?_
  exact (by first | (rw [pl_no (by omega)]; rfl) | (rw [pl_off (by omega) (by omega)]; rfl) | (rw [pl_set (by omega) (by omega) (by omega)]; rfl) | (rw [pl_add (by omega) (by omega) (by omega)]; rfl) | (rw [pl_jump (by omega) (by omega) (by omega)]; rfl) | (rw [pl_else (by omega) (by omega) (by omega)]; rfl) | (exfalso; omega))
 ·refine callP (spec_InsAt_f _ _).k ?_
  refine callP (spec_l01In_f _ _ _).k ?_
  refine cnd (fun hg3 => ?_) (fun hg3 => ?_)
  ·refine callP (spec_l01In_f _ _ _).k ?_
   refine cnd (fun hg1 => ?_) (fun hg1 => ?_)
   ·refine cnd (fun hb2 => ?_) (fun hb2 => ?_)
    ·refine callG (spec_Moved_f { g with A := (insAt g.Prog g.Pc).X }).k ?_
     exact (by first | (rw [pl_no (by omega)]; rfl) | (rw [pl_off (by omega) (by omega)]; rfl) | (rw [pl_set (by omega) (by omega) (by omega)]; rfl) | (rw [pl_add (by omega) (by omega) (by omega)]; rfl) | (rw [pl_jump (by omega) (by omega) (by omega)]; rfl) | (rw [pl_else (by omega) (by omega) (by omega)]; rfl) | (exfalso; omega))
    ·refine cndT (by first | omega | (simp [*]; done)) ?_
     refine cnd (fun hb3 => ?_) (fun hb3 => ?_)
     ·refine rng ?_
      refine nz ?_
      refine callG (spec_Moved_f { g with A := (g.A + (insAt g.Prog g.Pc).X).tmod 100 }).k ?_
      exact (by first | (rw [pl_no (by omega)]; rfl) | (rw [pl_off (by omega) (by omega)]; rfl) | (rw [pl_set (by omega) (by omega) (by omega)]; rfl) | (rw [pl_add (by omega) (by omega) (by omega)]; rfl) | (rw [pl_jump (by omega) (by omega) (by omega)]; rfl) | (rw [pl_else (by omega) (by omega) (by omega)]; rfl) | (exfalso; omega))
     ·refine cndT (by first | omega | (simp [*]; done)) ?_
      refine cnd (fun hg6 => ?_) (fun hg6 => ?_)
      ·refine cnd (fun hb4 => ?_) (fun hb4 => ?_)
       ·refine callG (spec_l15Copy_f _).k ?_
        exact (by first | (rw [pl_no (by omega)]; rfl) | (rw [pl_off (by omega) (by omega)]; rfl) | (rw [pl_set (by omega) (by omega) (by omega)]; rfl) | (rw [pl_add (by omega) (by omega) (by omega)]; rfl) | (rw [pl_jump (by omega) (by omega) (by omega)]; rfl) | (rw [pl_else (by omega) (by omega) (by omega)]; rfl) | (exfalso; omega))
       ·refine callG (spec_Moved_f g).k ?_
        exact (by first | (rw [pl_no (by omega)]; rfl) | (rw [pl_off (by omega) (by omega)]; rfl) | (rw [pl_set (by omega) (by omega) (by omega)]; rfl) | (rw [pl_add (by omega) (by omega) (by omega)]; rfl) | (rw [pl_jump (by omega) (by omega) (by omega)]; rfl) | (rw [pl_else (by omega) (by omega) (by omega)]; rfl) | (exfalso; omega))
      ·refine callG (spec_Moved_f g).k ?_
       exact (by first | (rw [pl_no (by omega)]; rfl) | (rw [pl_off (by omega) (by omega)]; rfl) | (rw [pl_set (by omega) (by omega) (by omega)]; rfl) | (rw [pl_add (by omega) (by omega) (by omega)]; rfl) | (rw [pl_jump (by omega) (by omega) (by omega)]; rfl) | (rw [pl_else (by omega) (by omega) (by omega)]; rfl) | (exfalso; omega))
   ·refine cndF (by first | omega | (simp [*]; done)) ?_
    refine cndF (by first | omega | (simp [*]; done)) ?_
    refine callG (spec_Moved_f g).k ?_
    exact (by first | (rw [pl_no (by omega)]; rfl) | (rw [pl_off (by omega) (by omega)]; rfl) | (rw [pl_set (by omega) (by omega) (by omega)]; rfl) | (rw [pl_add (by omega) (by omega) (by omega)]; rfl) | (rw [pl_jump (by omega) (by omega) (by omega)]; rfl) | (rw [pl_else (by omega) (by omega) (by omega)]; rfl) | (exfalso; omega))
  ·refine callG (spec_Moved_f g).k ?_
   exact (by first | (rw [pl_no (by omega)]; rfl) | (rw [pl_off (by omega) (by omega)]; rfl) | (rw [pl_set (by omega) (by omega) (by omega)]; rfl) | (rw [pl_add (by omega) (by omega) (by omega)]; rfl) | (rw [pl_jump (by omega) (by omega) (by omega)]; rfl) | (rw [pl_else (by omega) (by omega) (by omega)]; rfl) | (exfalso; omega))
theorem impl_Plainly_f (g : VGuest) [Q (SmGuest g)] [hpc : Q (-9223372036854775808 ≤ g.Pc)] : Fun Tryz.prog 418 [A (rGuest g)] (RG [.a (rGuest (plainly g))]) := by
 refine Fun.w 59 Tryz.func418 fun w g0 _ => ?_
 refine callP (impl_WantOf_f _).k ?_
 refine cnd (fun hb => ?_) (fun hb => ?_)
 ·refine callG (impl_copyGuest_f _).k ?_
  exact (by first | (rw [pl_no (by omega)]; rfl) | (rw [pl_off (by omega) (by omega)]; rfl) | (rw [pl_set (by omega) (by omega) (by omega)]; rfl) | (rw [pl_add (by omega) (by omega) (by omega)]; rfl) | (rw [pl_jump (by omega) (by omega) (by omega)]; rfl) | (rw [pl_else (by omega) (by omega) (by omega)]; rfl) | (exfalso; omega))
 ·refine callP (impl_InsAt_f _ _).k ?_
  refine callG (impl_Moved_f _).k ?_
  refine callP (impl_within_f _ _ _).k ?_
  refine cnd (fun hg4 => ?_) (fun hg4 => ?_)
  ·exact (by first | (rw [pl_no (by omega)]; rfl) | (rw [pl_off (by omega) (by omega)]; rfl) | (rw [pl_set (by omega) (by omega) (by omega)]; rfl) | (rw [pl_add (by omega) (by omega) (by omega)]; rfl) | (rw [pl_jump (by omega) (by omega) (by omega)]; rfl) | (rw [pl_else (by omega) (by omega) (by omega)]; rfl) | (exfalso; omega))
  ·refine callP (impl_within_f _ _ _).k ?_
   refine cnd (fun hb2 => ?_) (fun hb2 => ?_)
   ·exact (by first | (rw [pl_no (by omega)]; rfl) | (rw [pl_off (by omega) (by omega)]; rfl) | (rw [pl_set (by omega) (by omega) (by omega)]; rfl) | (rw [pl_add (by omega) (by omega) (by omega)]; rfl) | (rw [pl_jump (by omega) (by omega) (by omega)]; rfl) | (rw [pl_else (by omega) (by omega) (by omega)]; rfl) | (exfalso; omega))
   ·refine cnd (fun hb3 => ?_) (fun hb3 => ?_)
    ·exact (by first | (rw [pl_no (by omega)]; rfl) | (rw [pl_off (by omega) (by omega)]; rfl) | (rw [pl_set (by omega) (by omega) (by omega)]; rfl) | (rw [pl_add (by omega) (by omega) (by omega)]; rfl) | (rw [pl_jump (by omega) (by omega) (by omega)]; rfl) | (rw [pl_else (by omega) (by omega) (by omega)]; rfl) | (exfalso; omega))
    ·refine cnd (fun hb4 => ?_) (fun hb4 => ?_)
     ·refine rng ?_
      refine nz ?_
      exact (by first | (rw [pl_no (by omega)]; rfl) | (rw [pl_off (by omega) (by omega)]; rfl) | (rw [pl_set (by omega) (by omega) (by omega)]; rfl) | (rw [pl_add (by omega) (by omega) (by omega)]; rfl) | (rw [pl_jump (by omega) (by omega) (by omega)]; rfl) | (rw [pl_else (by omega) (by omega) (by omega)]; rfl) | (exfalso; omega))
     ·refine cnd (fun hg3 => ?_) (fun hg3 => ?_)
      ·refine cnd (fun hb5 => ?_) (fun hb5 => ?_)
       ·exact (by first | (rw [pl_no (by omega)]; rfl) | (rw [pl_off (by omega) (by omega)]; rfl) | (rw [pl_set (by omega) (by omega) (by omega)]; rfl) | (rw [pl_add (by omega) (by omega) (by omega)]; rfl) | (rw [pl_jump (by omega) (by omega) (by omega)]; rfl) | (rw [pl_else (by omega) (by omega) (by omega)]; rfl) | (exfalso; omega))
       ·exact (by first | (rw [pl_no (by omega)]; rfl) | (rw [pl_off (by omega) (by omega)]; rfl) | (rw [pl_set (by omega) (by omega) (by omega)]; rfl) | (rw [pl_add (by omega) (by omega) (by omega)]; rfl) | (rw [pl_jump (by omega) (by omega) (by omega)]; rfl) | (rw [pl_else (by omega) (by omega) (by omega)]; rfl) | (exfalso; omega))
      ·exact (by first | (rw [pl_no (by omega)]; rfl) | (rw [pl_off (by omega) (by omega)]; rfl) | (rw [pl_set (by omega) (by omega) (by omega)]; rfl) | (rw [pl_add (by omega) (by omega) (by omega)]; rfl) | (rw [pl_jump (by omega) (by omega) (by omega)]; rfl) | (rw [pl_else (by omega) (by omega) (by omega)]; rfl) | (exfalso; omega))
theorem spec_l18Trap_f (g : VGuest) (t : Int) (w : Int) [Q (SmGuest g)] [hpc : Q (-9223372036854775808 ≤ g.Pc)] : Fun Tryz.prog 325 [A (rGuest g), I t, I w] (RG [.a (rGuest (trapBy g t w).1), .c (.v (.bool (trapBy g t w).2))]) := by
 refine Fun.w 51 Tryz.func325 fun w g0 _ => ?_
 refine callP (spec_InsAt_f _ _).k ?_
 refine cnd (fun hb => ?_) (fun hb => ?_)
 ·refine regU [5] [(0, 0), (1, 0), (2, 0), (3, 1), (4, 1), (5, 1), (6, 0)] ?_
  refine callP (spec_CallExit_f _).k ?_
  refine callG (spec_Stopped_f g (callExit (insAt g.Prog g.Pc).X)).k ?_
  exact (by first | (rw [tb_call (by omega)]; rfl) | (rw [tb_out (by omega) (by assumption)]; rfl) | (rw [tb_halt (by omega) (by assumption)]; rfl) | (rw [tb_held (by omega) (by assumption)]; rfl) | (rw [tb_moved (by omega) (by first | exact .inl (by omega) | exact .inr (by assumption))]; rfl) | (exfalso; omega) | (exfalso; simp_all; done))
 ·refine cnd (fun hg2 => ?_) (fun hg2 => ?_)
  ·refine callP (spec_HasTrap_f _ _).k ?_
   refine cnd (fun hb2 => ?_) (fun hb2 => ?_)
   ·refine regU [5] [(0, 0), (1, 0), (2, 0), (3, 1), (4, 1), (5, 1), (6, 0)] ?_
    refine callP (spec_OutExit_f _).k ?_
    refine callG (spec_Stopped_f g (outExit (insAt g.Prog g.Pc).X)).k ?_
    exact (by first | (rw [tb_call (by omega)]; rfl) | (rw [tb_out (by omega) (by assumption)]; rfl) | (rw [tb_halt (by omega) (by assumption)]; rfl) | (rw [tb_held (by omega) (by assumption)]; rfl) | (rw [tb_moved (by omega) (by first | exact .inl (by omega) | exact .inr (by assumption))]; rfl) | (exfalso; omega) | (exfalso; simp_all; done))
   ·refine cnd (fun hg2 => ?_) (fun hg2 => ?_)
    ·refine callP (spec_HasTrap_f _ _).k ?_
     refine cnd (fun hb3 => ?_) (fun hb3 => ?_)
     ·refine callG (spec_Stopped_f g haltExit).k ?_
      exact (by first | (rw [tb_call (by omega)]; rfl) | (rw [tb_out (by omega) (by assumption)]; rfl) | (rw [tb_halt (by omega) (by assumption)]; rfl) | (rw [tb_held (by omega) (by assumption)]; rfl) | (rw [tb_moved (by omega) (by first | exact .inl (by omega) | exact .inr (by assumption))]; rfl) | (exfalso; omega) | (exfalso; simp_all; done))
     ·refine cnd (fun hb4 => ?_) (fun hb4 => ?_)
      ·refine callG (spec_Held_f _).k ?_
       exact (by first | (rw [tb_call (by omega)]; rfl) | (rw [tb_out (by omega) (by assumption)]; rfl) | (rw [tb_halt (by omega) (by assumption)]; rfl) | (rw [tb_held (by omega) (by assumption)]; rfl) | (rw [tb_moved (by omega) (by first | exact .inl (by omega) | exact .inr (by assumption))]; rfl) | (exfalso; omega) | (exfalso; simp_all; done))
      ·refine callG (spec_Moved_f _).k ?_
       exact (by first | (rw [tb_call (by omega)]; rfl) | (rw [tb_out (by omega) (by assumption)]; rfl) | (rw [tb_halt (by omega) (by assumption)]; rfl) | (rw [tb_held (by omega) (by assumption)]; rfl) | (rw [tb_moved (by omega) (by first | exact .inl (by omega) | exact .inr (by assumption))]; rfl) | (exfalso; omega) | (exfalso; simp_all; done))
    ·refine cnd (fun hb5 => ?_) (fun hb5 => ?_)
     ·refine callG (spec_Held_f _).k ?_
      exact (by first | (rw [tb_call (by omega)]; rfl) | (rw [tb_out (by omega) (by assumption)]; rfl) | (rw [tb_halt (by omega) (by assumption)]; rfl) | (rw [tb_held (by omega) (by assumption)]; rfl) | (rw [tb_moved (by omega) (by first | exact .inl (by omega) | exact .inr (by assumption))]; rfl) | (exfalso; omega) | (exfalso; simp_all; done))
     ·refine callG (spec_Moved_f _).k ?_
      exact (by first | (rw [tb_call (by omega)]; rfl) | (rw [tb_out (by omega) (by assumption)]; rfl) | (rw [tb_halt (by omega) (by assumption)]; rfl) | (rw [tb_held (by omega) (by assumption)]; rfl) | (rw [tb_moved (by omega) (by first | exact .inl (by omega) | exact .inr (by assumption))]; rfl) | (exfalso; omega) | (exfalso; simp_all; done))
  ·refine cnd (fun hg2 => ?_) (fun hg2 => ?_)
   ·refine callP (spec_HasTrap_f _ _).k ?_
    refine cnd (fun hb6 => ?_) (fun hb6 => ?_)
    ·refine callG (spec_Stopped_f g haltExit).k ?_
     exact (by first | (rw [tb_call (by omega)]; rfl) | (rw [tb_out (by omega) (by assumption)]; rfl) | (rw [tb_halt (by omega) (by assumption)]; rfl) | (rw [tb_held (by omega) (by assumption)]; rfl) | (rw [tb_moved (by omega) (by first | exact .inl (by omega) | exact .inr (by assumption))]; rfl) | (exfalso; omega) | (exfalso; simp_all; done))
    ·refine cnd (fun hb7 => ?_) (fun hb7 => ?_)
     ·refine callG (spec_Held_f _).k ?_
      exact (by first | (rw [tb_call (by omega)]; rfl) | (rw [tb_out (by omega) (by assumption)]; rfl) | (rw [tb_halt (by omega) (by assumption)]; rfl) | (rw [tb_held (by omega) (by assumption)]; rfl) | (rw [tb_moved (by omega) (by first | exact .inl (by omega) | exact .inr (by assumption))]; rfl) | (exfalso; omega) | (exfalso; simp_all; done))
     ·refine callG (spec_Moved_f _).k ?_
      exact (by first | (rw [tb_call (by omega)]; rfl) | (rw [tb_out (by omega) (by assumption)]; rfl) | (rw [tb_halt (by omega) (by assumption)]; rfl) | (rw [tb_held (by omega) (by assumption)]; rfl) | (rw [tb_moved (by omega) (by first | exact .inl (by omega) | exact .inr (by assumption))]; rfl) | (exfalso; omega) | (exfalso; simp_all; done))
   ·refine cnd (fun hb8 => ?_) (fun hb8 => ?_)
    ·refine callG (spec_Held_f _).k ?_
     exact (by first | (rw [tb_call (by omega)]; rfl) | (rw [tb_out (by omega) (by assumption)]; rfl) | (rw [tb_halt (by omega) (by assumption)]; rfl) | (rw [tb_held (by omega) (by assumption)]; rfl) | (rw [tb_moved (by omega) (by first | exact .inl (by omega) | exact .inr (by assumption))]; rfl) | (exfalso; omega) | (exfalso; simp_all; done))
    ·refine callG (spec_Moved_f _).k ?_
     exact (by first | (rw [tb_call (by omega)]; rfl) | (rw [tb_out (by omega) (by assumption)]; rfl) | (rw [tb_halt (by omega) (by assumption)]; rfl) | (rw [tb_held (by omega) (by assumption)]; rfl) | (rw [tb_moved (by omega) (by first | exact .inl (by omega) | exact .inr (by assumption))]; rfl) | (exfalso; omega) | (exfalso; simp_all; done))
theorem impl_trapOf_f (w : Int) : Fun Tryz.prog 422 [I w] (RV (.int .i64 (trapOf w))) := by
 refine Fun.w 5 Tryz.func422 fun w g0 _ => ?_
 refine cnd (fun hb => ?_) (fun hb => ?_)
 ·exact resV (by first | (simp_all [trapOf]; done) | (simp_all [trapOf]; omega) | (simp_all [trapOf] <;> (try intros) <;> omega) | (refine congrArg Value.bool ?_; rw [Bool.eq_iff_iff]; simp [trapOf]; omega) | (simp_all [trapOf] <;> rfl))
 ·exact resV (by first | (simp_all [trapOf]; done) | (simp_all [trapOf]; omega) | (simp_all [trapOf] <;> (try intros) <;> omega) | (refine congrArg Value.bool ?_; rw [Bool.eq_iff_iff]; simp [trapOf]; omega) | (simp_all [trapOf] <;> rfl))
theorem impl_trapped_f (g : VGuest) (w : Int) [Q (SmGuest g)] : Fun Tryz.prog 423 [A (rGuest g), I w] (RG [.a (rGuest (trapped g w))]) := by
 refine Fun.w 19 Tryz.func423 fun w g0 _ => ?_
 refine cnd (fun hb => ?_) (fun hb => ?_)
 ·refine regU [9] [(0, 0), (1, 0), (2, 0), (3, 0), (4, 0), (5, 1), (6, 0), (7, 1), (8, 1), (9, 1)] ?_
  refine callP (impl_InsAt_f _ _).k ?_
  refine callP (impl_OutExit_f _).k ?_
  refine callG (impl_Stopped_f g (outExit (insAt g.Prog g.Pc).X)).k ?_
  exact (by first | (rw [trapped_out (by omega)]; rfl) | (rw [trapped_halt (by omega)]; rfl))
 ·refine callG (impl_Stopped_f g haltExit).k ?_
  exact (by first | (rw [trapped_out (by omega)]; rfl) | (rw [trapped_halt (by omega)]; rfl))
theorem spec_l17Guests_f (l : List VGuest) [Q (SmGuestS l)] : Fun Tryz.prog 182 [L 15 (l.map dGuest)] (RL 15 (l.map dGuest)) := by
 refine Fun.w 21 Tryz.func182 fun w g0 hM => ?_
 have hl0 := hM.1.map
 refine loopA [0, 2, 3] [3] [3] (fun (i : Nat) => [.set 4 (I i)]) (fun (i : Nat) => [(3, ⟨false, [.own (.sl 15 ((l.take i).map dGuest))]⟩)]) (fun (i : Nat) => i ≤ l.length) (fun (i : Nat) => l.length - i) (0) (Nat.zero_le _) ?_
 refine ⟨hda, fun i hyp N1 hN1 => ?_⟩
 have hyp : i ≤ l.length := hyp
 refine len ?_
 refine cnd (fun hb => ?_) (fun hb => ?_)
 ·first | refine ixm (by assumption) ?_ | refine bnd ?_ | refine bndi ?_ | refine ixkq (fun y15 hy15 qy15 ly15 => ?_) | refine ixiq (fun y15 hy15 qy15 ly15 => ?_)
  first | refine ixs ?_ | refine ixo (by assumption) ?_ | refine ixoq (fun z1 hz1 qz1 lz1 => ?_) | skip
  refine callG (spec_l15Copy_f _).k ?_
  first | refine appOq ?_ | refine appO ?_
  refine rng ?_
  refine hN1 _ _ _ ?_
  refine nxa (i + 1) (by omega)
 ·refine hN1 _ _ _ ?_
  exact (by rw [List.take_of_length_le (by omega)]; rfl)
theorem impl_copyGuests_f (l : List VGuest) [Q (SmGuestS l)] : Fun Tryz.prog 82 [L 15 (l.map dGuest)] (RL 15 (l.map dGuest)) := by
 refine Fun.w 20 Tryz.func82 fun w g0 hM => ?_
 have hl0 := hM.1.map
 refine len ?_
 refine loopA [2, 3, 7, 8] [3] [3] (fun (i : Nat) => [.set 9 (I i)]) (fun (i : Nat) => [(3, ⟨false, [.own (.sl 15 ((l.take i).map dGuest))]⟩)]) (fun (i : Nat) => i ≤ l.length) (fun (i : Nat) => l.length - i) (0) (Nat.zero_le _) ?_
 refine ⟨hda, fun i hyp N1 hN1 => ?_⟩
 have hyp : i ≤ l.length := hyp
 refine cnd (fun hb => ?_) (fun hb => ?_)
 ·first | refine ixm (by assumption) ?_ | refine bnd ?_ | refine bndi ?_ | refine ixkq (fun y11 hy11 qy11 ly11 => ?_) | refine ixiq (fun y11 hy11 qy11 ly11 => ?_)
  first | refine ixs ?_ | refine ixo (by assumption) ?_ | refine ixoq (fun z1 hz1 qz1 lz1 => ?_) | skip
  refine callG (impl_copyGuest_f _).k ?_
  first | refine appOq ?_ | refine appO ?_
  refine rng ?_
  refine hN1 _ _ _ ?_
  refine nxa (i + 1) (by omega)
 ·refine hN1 _ _ _ ?_
  exact (by rw [List.take_of_length_le (by omega)]; rfl)
theorem spec_l17Copy_f (b : VBare) [Q (SmBare b)] : Fun Tryz.prog 74 [A (rBare b)] (RG [.a (rBare (b))]) := by
 refine Fun.w 16 Tryz.func74 fun w g0 _ => ?_
 refine regT [9, 13] [9] [1] (.quiet 0 0 (.quiet 1 0 (.quiet 3 0 (.quiet 4 0 (.quiet 7 0 (.quiet 8 0 (.quiet 10 1 (.quiet 11 1 (.fork (.alt 2 (.fork (.alt 5 (.fork (.alt 6 (.fork (.alt 9 (.quiet 12 0 (.fork (.alt 13 .done .stop))) .stop)) .stop)) (.alt 6 (.fork (.alt 5 (.fork (.alt 9 (.quiet 12 0 (.fork (.alt 13 .done .stop))) .stop)) .stop)) .stop))) (.alt 6 (.fork (.alt 2 (.fork (.alt 5 (.fork (.alt 9 (.quiet 12 0 (.fork (.alt 13 .done .stop))) .stop)) .stop)) .stop)) .stop))))))))))) ?_
 repeat' first | exact True.intro | refine And.intro ?_ ?_ | (intro _ _) | refine callL (spec_l04Copy_f _).k ?_ | refine callL (spec_l17Guests_f _).k ?_ | refine appPq ?_ | refine appP ?_
 all_goals exact rfl
theorem impl_copyBare_f (b : VBare) [Q (SmBare b)] : Fun Tryz.prog 253 [A (rBare b)] (RG [.a (rBare (b))]) := by
 refine Fun.w 15 Tryz.func253 fun w g0 _ => ?_
 refine regU [12] [(0, 0), (1, 0), (3, 0), (4, 0), (6, 0), (7, 0), (9, 0), (10, 0), (2, 1), (5, 1), (8, 1), (11, 0), (12, 1)] ?_
 refine callL (impl_copyMem_f _).k ?_
 refine callL (impl_copyGuests_f _).k ?_
 refine callL (impl_copyInts_f _).k ?_
 exact rfl
end Go.Proofs.YteelmdpahpggkaaGreat.T

namespace Go.Proofs.YteelmdpahpggkaaGreat.T
open Go
set_option linter.unusedVariables false
set_option linter.unusedSimpArgs false
set_option maxRecDepth 100000
set_option maxHeartbeats 8000000
end Go.Proofs.YteelmdpahpggkaaGreat.T

namespace Go.Proofs.YteelmdpahpggkaaGreat.T
open Go
set_option linter.unusedVariables false
set_option linter.unusedSimpArgs false
set_option maxRecDepth 100000
set_option maxHeartbeats 8000000
end Go.Proofs.YteelmdpahpggkaaGreat.T

namespace Go.Proofs.YteelmdpahpggkaaGreat.T
open Go
set_option linter.unusedVariables false
set_option linter.unusedSimpArgs false
set_option maxRecDepth 100000
set_option maxHeartbeats 8000000
end Go.Proofs.YteelmdpahpggkaaGreat.T

namespace Go.Proofs.YteelmdpahpggkaaGreat.T
open Go
set_option linter.unusedVariables false
set_option linter.unusedSimpArgs false
set_option maxRecDepth 100000
set_option maxHeartbeats 8000000
instance wlMon (xs : List VMon) : WL (xs.map dMon) := ⟨fun d hd => by obtain ⟨x, _, rfl⟩ := List.mem_map.1 hd; exact inferInstanceAs (WR (dMon x))⟩
end Go.Proofs.YteelmdpahpggkaaGreat.T

namespace Go.Proofs.YteelmdpahpggkaaGreat
open Go.Shelf
set_option maxRecDepth 100000
def laysMul_ren : Go.Shelf.Ren := ⟨fun | 212 => 304 | 263 => 399 | 264 => 400 | n => n, fun | 46 => 291 | 51 => 337 | 146 => 338 | 53 => 340 | 148 => 341 | n => n, fun | n => n⟩
theorem laysMul : Go.Proofs.Lays.n212 Tryz.prog laysMul_ren := {
 mixed := by kernel_rfl
 f212 := Tryz.func304.trans (congrArg some (by kernel_rfl))
 f263 := Tryz.func399.trans (congrArg some (by kernel_rfl))
 f264 := Tryz.func400.trans (congrArg some (by kernel_rfl))
 t46 := Tryz.underlying291
 a46 := Tryz.isAgg291
 z46 := Tryz.sizeOf291
 v46 := Tryz.zeroValue291
 t51 := Tryz.underlying337
 a51 := Tryz.isAgg337
 z51 := Tryz.sizeOf337
 v51 := Tryz.zeroValue337
 t53 := Tryz.underlying340
 a53 := Tryz.isAgg340
 z53 := Tryz.sizeOf340
 v53 := Tryz.zeroValue340
 t146 := Tryz.underlying338
 a146 := Tryz.isAgg338
 z146 := Tryz.sizeOf338
 v146 := Tryz.zeroValue338
 t148 := Tryz.underlying341
 a148 := Tryz.isAgg341
 z148 := Tryz.sizeOf341
 v148 := Tryz.zeroValue341 }
end Go.Proofs.YteelmdpahpggkaaGreat

namespace Go.Proofs.YteelmdpahpggkaaGreat.T
open Go
set_option linter.unusedVariables false
set_option linter.unusedSimpArgs false
set_option maxRecDepth 100000
set_option maxHeartbeats 8000000
theorem FunAt.still {P : Program} {f : FuncId} {vs : List Value} {t : TS} {x : Value} {w : World} (hp : freeS t = some x) (h : Calls P f vs.toArray w fun e w' => e = .returned x ∧ w' = w) : FunAt P f (vs.map V) (RP t) w := by
 intro g args k hg hsz hargs
 have ha : args = vs.toArray := by
  apply Array.ext
  ·simpa using hsz
  ·intro i h1 h2
   have h3 : i < vs.length := by simpa using h2
   have := V_inv (hargs i (V vs[i]) args[i] (by simp [h3]) (Array.getElem?_eq_getElem h1))
   simpa using this
 subst ha
 refine h.mono fun e w' ⟨he, hw⟩ => ?_
 subst he
 subst hw
 refine ⟨x, ⟨[], fun _ => t⟩, g, rfl, rfl, ⟨rfl, rfl, rfl, Nat.le_refl _, fun b hb => rfl, fun b h1 h2 => by omega, fun b hb => ?_, fun q d hq => ?_, (freeS_inv hp).2 rfl⟩⟩
 ·rw [hg] at hb
  simp only [allRo] at hb
  split at hb <;> cases hb
 ·simp at hq
theorem bits_Mul_f (n : Nat) (hn : n ≤ 24) : Fun Tryz.prog 304 [V (.int .u64 1), V (.int .u64 n)] (RP (.tup [.c (.ro (.v (.int .u64 0))), .c (.ro (.v (.int .u64 n)))])) := fun w => by
 have h := Go.Proofs.Any.bits_Mul laysMul 1 n (by omega) (by omega) w
 have e1 : ((1 * n / 18446744073709551616 : Nat) : Int) = 0 := by omega
 have e2 : ((1 * n % 18446744073709551616 : Nat) : Int) = n := by omega
 rw [e1, e2] at h
 exact FunAt.still (vs := [.int .u64 1, .int .u64 n]) rfl h
abbrev dz : D := .st [.v (.int .i64 0), .v (.int .i64 0)]
abbrev repL (s : VSlot) (n k : Nat) : List D := List.replicate k (dSlot s) ++ List.replicate (n - k) dz
theorem repL_one {s : VSlot} {n : Nat} : repL s n 1 = (List.replicate n dz).take 0 ++ [dSlot s].take 1 ++ (List.replicate n dz).drop (0 + 1) := by simp [repL]
theorem repL_next {s : VSlot} {n k m : Nat} (hk : k ≤ n) (hm : m ≤ n - k) (hm2 : m ≤ k) : repL s n (k + m) = (repL s n k).take k ++ (((repL s n k).take k).drop 0).take m ++ (repL s n k).drop (k + m) := by
 have e1 : (repL s n k).take k = List.replicate k (dSlot s) := by simp [repL]
 have e2 : (repL s n k).drop (k + m) = List.replicate (n - (k + m)) dz := by
  simp only [repL, List.drop_append, List.length_replicate]
  rw [List.drop_eq_nil_of_le (by simp), List.nil_append, List.drop_replicate]
  congr 1
  omega
 rw [e1, e2, List.drop_zero, List.take_replicate, Nat.min_eq_left hm2, List.replicate_append_replicate]
theorem repL_end {s : VSlot} {n : Nat} : repL s n n = (List.replicate n s).map dSlot := by simp [repL]
theorem slices_RepeatSlot_f (s : VSlot) (n : Nat) (hn : 1 ≤ n ∧ n ≤ 24) : Fun Tryz.prog 220 [.one (.c (.ro (.sl 2 [dSlot s]))), I n] (RL 2 ((List.replicate n s).map dSlot)) := by
 refine Fun.w 48 Tryz.func220 fun w g0 _ => ?_
 refine lenq 1 ?_ rfl
 refine cvu ?_
 refine cvu ?_
 refine callP (bits_Mul_f n (by omega)).k ?_
 refine cnd (fun hb => ?_) (fun hb => ?_)
 ·omega
 ·refine cvs ?_
  refine mkn ?_
  refine cpy 1 (repL s n 1) ?_ (by show 1 = min _ _; simp; omega) (by decide) repL_one
  refine loopA [4, 7, 30] [30] [30] (fun (k : Nat) => [.set 8 (I k)]) (fun (k : Nat) => [(30, ⟨false, [.own (.sl 2 (repL s n k))]⟩)]) (fun (k : Nat) => 1 ≤ k ∧ k ≤ n) (fun (k : Nat) => n - k) (1) (⟨Nat.le_refl _, by omega⟩) ?_
  refine ⟨hda, fun k hypk N1 hN1 => ?_⟩
  have hypk : 1 ≤ k ∧ k ≤ n := hypk
  refine len ?_
  refine cnd (fun hb2 => ?_) (fun hb2 => ?_)
  ·refine regT [7] [7] [] (.quiet 1 0 (.quiet 2 0 (.quiet 3 0 (.quiet 4 0 (.quiet 5 0 (.quiet 6 0 (.quiet 0 1 (.fork (.alt 7 (.quiet 8 0 (.quiet 9 0 .done)) .stop))))))))) ?_
   repeat' first | exact True.intro | refine And.intro ?_ ?_ | (intro _ _) | refine cutO k n ?_ (by omega) (by simp <;> omega) (by omega) (by simp <;> omega) | refine cutO 0 k ?_ (by omega) (by omega) (by omega) (by simp <;> omega) | refine cpy (min k (n - k)) (repL s n (k + min k (n - k))) ?_ (by show _ = min _ _; simp [repL] <;> omega) (by omega) (repL_next (by omega) (by omega) (by omega)) | refine rng ?_
   refine hN1 _ _ _ ?_
   refine nxa (k + min k (n - k)) (by omega)
  ·refine hN1 _ _ _ ?_
   exact (by have hkn : k = n := (by omega); subst hkn; rw [repL_end]; rfl)
end Go.Proofs.YteelmdpahpggkaaGreat.T

