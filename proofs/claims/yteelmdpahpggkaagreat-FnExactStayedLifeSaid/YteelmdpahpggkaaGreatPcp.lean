
import Derived.Test.YteelmdpahpggkaaGreatPbp
namespace Go.Proofs.YteelmdpahpggkaaGreat.T
open Go
set_option linter.unusedVariables false
set_option linter.unusedSimpArgs false
set_option maxRecDepth 100000
set_option maxHeartbeats 8000000
theorem addr_le {x : VGuest} (h : guestOk x = true) : -1 ≤ address x ∧ address x ≤ 15 := by
 unfold address
 split
 ·rename_i hw
  have hop : (insAt x.Prog x.Pc).Op = 3 ∨ (insAt x.Prog x.Pc).Op = 4 := by
   unfold wantOf at hw
   repeat' split at hw
   all_goals omega
  have hp : progOk x.Prog = true := by simp only [guestOk, Bool.and_eq_true] at h; exact h.1.1.1.1.1.1.1.1
  unfold insAt at hop ⊢
  cases hy : at? x.Prog x.Pc with
  | none => rw [hy] at hop; simp at hop
  | some y =>
   rw [hy] at hop
   simp only [Option.getD_some] at hop ⊢
   have hm : y ∈ x.Prog := by
    unfold at? at hy
    split at hy
    ·exact List.mem_of_getElem? hy
    ·cases hy
   simp only [progOk, Bool.and_eq_true] at hp
   have h2 := List.all_eq_true.1 hp.1 y hm
   unfold insOk at h2
   rw [if_neg (by omega), if_pos hop] at h2
   have := of_decide_eq_true h2
   omega
 ·omega
theorem step_no {b : VBare} {g : Int} (h : bareOk b = false ∨ (at? b.Guests g).isSome = false ∨ wantOf (guestOr b g) = 0) : bareStep b g = none := by
 unfold bareStep
 split
 ·rename_i hb
  cases hx : at? b.Guests g with
  | none => rfl
  | some x =>
   rcases h with h | h | h
   ·rw [h] at hb; cases hb
   ·rw [hx] at h; cases h
   ·rw [guestOr_eq hx] at h; exact if_pos h
 ·rfl
theorem step_yes {b : VBare} {g : Int} (hb : bareOk b = true) (h : (at? b.Guests g).isSome = true) (hw : ¬ wantOf (guestOr b g) = 0) : bareStep b g = some (stepOf b g (guestOr b g)) := by
 unfold bareStep guestOr at *
 rw [if_pos hb]
 cases hx : at? b.Guests g with
 | none => rw [hx] at h; cases h
 | some x => rw [hx] at hw; exact if_neg hw
section
variable {b : VBare} {g : Int} {x : VGuest} {w : Bool}
theorem st_1 (h : wantOf x = 1) : stepOf b g x = withGuest b g (interrupted x) := if_pos h
theorem st_2 (h : wantOf x = 2) : stepOf b g x = withGuest b g (plainly x) := by unfold stepOf; rw [if_neg (by omega), if_pos h]
theorem st_w (h : wantOf x = 3 ∨ wantOf x = 4) (hw : w = (wantOf x == 4)) : stepOf b g x = touched b g x w := by
 unfold stepOf
 rw [if_neg (by omega), if_neg (by omega)]
 subst hw
 rcases h with h | h
 ·rw [if_pos h, h]; rfl
 ·rw [if_neg (by omega), if_pos h, h]; rfl
theorem st_6 (h : wantOf x = 6) : stepOf b g x = withGuest b g (stopped x (callExit (insAt x.Prog x.Pc).X)) := by unfold stepOf; rw [if_neg (by omega), if_neg (by omega), if_neg (by omega), if_neg (by omega), if_pos h]
theorem st_t (h : ¬ wantOf x = 1 ∧ ¬ wantOf x = 2 ∧ ¬ wantOf x = 3 ∧ ¬ wantOf x = 4 ∧ ¬ wantOf x = 6) (ht : hasTrap x.Ctl.Traps (trapOf (wantOf x)) = true) : stepOf b g x = withGuest b g (trapped x (wantOf x)) := by
 unfold stepOf; rw [if_neg h.1, if_neg h.2.1, if_neg h.2.2.1, if_neg h.2.2.2.1, if_neg h.2.2.2.2, if_pos ht]
theorem st_5 (h : wantOf x = 5) (ht : hasTrap x.Ctl.Traps (trapOf (wantOf x)) = false) : stepOf b g x = withGuest (putOut b (insAt x.Prog x.Pc).X) g (moved x) := by
 unfold stepOf; rw [if_neg (by omega), if_neg (by omega), if_neg (by omega), if_neg (by omega), if_neg (by omega), if_neg (by rw [ht]; decide), if_pos h]
theorem st_7 (h : ¬ wantOf x = 1 ∧ ¬ wantOf x = 2 ∧ ¬ wantOf x = 3 ∧ ¬ wantOf x = 4 ∧ ¬ wantOf x = 6 ∧ ¬ wantOf x = 5) (ht : hasTrap x.Ctl.Traps (trapOf (wantOf x)) = false) : stepOf b g x = withGuest b g (held x) := by
 unfold stepOf; rw [if_neg h.1, if_neg h.2.1, if_neg h.2.2.1, if_neg h.2.2.2.1, if_neg h.2.2.2.2.1, if_neg (by rw [ht]; decide), if_neg h.2.2.2.2.2]
abbrev walkX (x : VGuest) (w : Bool) : Option Int := walkInner x.Live (addrPage (address x)) (needOf w)
theorem tc_no (h : (walkX x w).isSome = false) : touched b g x w = withGuest b g (stopped x (faultExit (addrPage (address x)) w)) := by
 unfold touched
 unfold walkX at h
 cases e : walkInner x.Live (addrPage (address x)) (needOf w) with
 | none => rfl
 | some p => rw [e] at h; cases h
theorem tc_w (h : (walkX x w).isSome = true) (hw : w = true) : touched b g x w = withGuest { b with Memory := withCell b.Memory ((walkX x w).getD (-1)) (addrCell (address x)) x.A } g (moved x) := by
 unfold touched
 unfold walkX at h ⊢
 cases e : walkInner x.Live (addrPage (address x)) (needOf w) with
 | none => rw [e] at h; cases h
 | some p => exact if_pos hw
theorem tc_r (h : (walkX x w).isSome = true) (hw : w = false) : touched b g x w = withGuest b g (loaded x (cellAt b.Memory ((walkX x w).getD (-1)) (addrCell (address x)))) := by
 unfold touched
 unfold walkX at h ⊢
 cases e : walkInner x.Live (addrPage (address x)) (needOf w) with
 | none => rw [e] at h; cases h
 | some p => exact if_neg (by rw [hw]; decide)
end
theorem sm_cell {m : List (List Int)} {p c v : Int} (h : SmIntSS m) : SmIntSS (withCell m p c v) := by
 unfold withCell
 cases e : at? m p with
 | none => exact h
 | some r =>
  simp only
  split
  ·refine ⟨by rw [put_len]; exact h.1, fun y hy => ?_⟩
   unfold put at hy
   split at hy
   ·rcases List.mem_or_eq_of_mem_set hy with hy | rfl
    ·exact h.2 y hy
    ·show (put r c v).length ≤ _
     rw [put_len]
     exact h.2 r (at_mem e)
   ·exact h.2 y hy
  ·exact h
theorem sm_trapped {x : VGuest} {w : Int} (h : SmGuest x) : SmGuest (trapped x w) := by unfold trapped; split <;> exact h
instance (x : VGuest) (w : Int) [h : Q (SmGuest x)] : Q (SmGuest (trapped x w)) := ⟨sm_trapped h.h⟩
instance (b : VBare) (p c v : Int) [hb : Q (SmBare b)] : Q (SmBare { b with Memory := withCell b.Memory p c v }) := ⟨sm_cell hb.h.1, hb.h.2⟩
instance (m : List (List Int)) (p c v : Int) [hb : Q (SmIntSS m)] : Q (SmIntSS (withCell m p c v)) := ⟨sm_cell hb.h⟩
theorem tb_step {b : VBare} {g : Int} {x : VGuest} (h : ¬ wantOf x = 0 ∧ ¬ wantOf x = 1 ∧ ¬ wantOf x = 2 ∧ ¬ wantOf x = 3 ∧ ¬ wantOf x = 4) :
  stepOf b g x = withGuest (if (trapBy x x.Ctl.Traps (wantOf x)).2 = true ∧ wantOf x = 5 then putOut b (insAt x.Prog x.Pc).X else b) g (trapBy x x.Ctl.Traps (wantOf x)).1 := by
 have hw : wantOf x = 5 ∨ wantOf x = 6 ∨ wantOf x = 7 := by
  unfold wantOf at h ⊢
  repeat' split at h
  all_goals simp_all
 rcases hw with hw | hw | hw
 ·have e : trapOf (wantOf x) = 1 := by rw [hw]; rfl
  cases ht : hasTrap x.Ctl.Traps 1 with
  | true => rw [st_t (by omega) (by rw [e]; exact ht), tb_out hw ht, if_neg (by simp)]; unfold trapped; rw [if_pos hw]
  | false => rw [st_5 hw (by rw [e]; exact ht), tb_moved (by omega) (.inr ht), if_pos ⟨rfl, hw⟩]
 ·rw [st_6 hw, tb_call hw, if_neg (by simp)]
 ·have e : trapOf (wantOf x) = 2 := by rw [hw]; rfl
  cases ht : hasTrap x.Ctl.Traps 2 with
  | true => rw [st_t (by omega) (by rw [e]; exact ht), tb_halt hw ht, if_neg (by simp)]; unfold trapped; rw [if_neg (by omega)]
  | false => rw [st_7 (by omega) (by rw [e]; exact ht), tb_held hw ht, if_neg (by omega)]
theorem tb_went {b : VBare} {g : Int} {x : VGuest} (h : ¬ wantOf x = 0 ∧ ¬ wantOf x = 1 ∧ ¬ wantOf x = 2 ∧ ¬ wantOf x = 3 ∧ ¬ wantOf x = 4) (h2 : (trapBy x x.Ctl.Traps (wantOf x)).2 = true ∧ wantOf x = 5) : stepOf b g x = withGuest (putOut b (insAt x.Prog x.Pc).X) g (trapBy x x.Ctl.Traps (wantOf x)).1 := by rw [tb_step h, if_pos h2]
theorem tb_not {b : VBare} {g : Int} {x : VGuest} (h : ¬ wantOf x = 0 ∧ ¬ wantOf x = 1 ∧ ¬ wantOf x = 2 ∧ ¬ wantOf x = 3 ∧ ¬ wantOf x = 4) (h2 : (trapBy x x.Ctl.Traps (wantOf x)).2 = false ∨ ¬ wantOf x = 5) : stepOf b g x = withGuest b g (trapBy x x.Ctl.Traps (wantOf x)).1 := by
 rw [tb_step h, if_neg]
 rintro ⟨h3, h4⟩
 rcases h2 with h2 | h2
 ·rw [h2] at h3; cases h3
 ·exact h2 h4
theorem sm_trapBy {x : VGuest} {t w : Int} (h : SmGuest x) : SmGuest (trapBy x t w).1 := by
 unfold trapBy
 repeat' split
 all_goals exact h
instance (x : VGuest) (t w : Int) [h : Q (SmGuest x)] : Q (SmGuest (trapBy x t w).1) := ⟨sm_trapBy h.h⟩
theorem impl_BareStep_f (b : VBare) (g : Int) [Q (SmBare b)] : Fun Tryz.prog 337 [A (rBare b), I g] (RG [.a (rBare ((bareStep b g).getD b)), .c (.v (.bool (bareStep b g).isSome))]) := by
 refine Fun.w 150 Tryz.func337 fun w g0 _ => ?_
 refine callG (impl_GuestAt_f b g).k ?_
 refine callP (impl_WantOf_f _).k ?_
 refine callP (impl_BareOk_f _).k ?_
 refine cnd (fun hg3 => ?_) (fun hg3 => ?_)
 ·refine callG (impl_copyBare_f _).k ?_
  exact (by rw [step_no (by first | (left; assumption) | (right; left; assumption) | (right; right; assumption))]; rfl)
 ·refine cnd (fun hg7 => ?_) (fun hg7 => ?_)
  ·refine callG (impl_copyBare_f _).k ?_
   exact (by rw [step_no (by first | (left; assumption) | (right; left; assumption) | (right; right; assumption))]; rfl)
  ·refine cnd (fun hb => ?_) (fun hb => ?_)
   ·refine callG (impl_copyBare_f _).k ?_
    exact (by rw [step_no (by first | (left; assumption) | (right; left; assumption) | (right; right; assumption))]; rfl)
   ·have hxo := guestOr_ok (b := b) (g := g) (by assumption) (by assumption)
    have hxr := guest_rng hxo
    have hxa := addr_le hxo
    have qx : Q (SmGuest (guestOr b g)) := inferInstance
    have qp : Q (-9223372036854775808 ≤ (guestOr b g).Pc) := ⟨by omega⟩
    have qa : Q (address (guestOr b g) ≤ 9223372036854775807) := ⟨by omega⟩
    refine callP (impl_Address_f (guestOr b g)).k ?_
    refine callP (impl_InsAt_f _ _).k ?_
    refine cnd (fun hb2 => ?_) (fun hb2 => ?_)
    ·refine regU [5] [(0, 0), (1, 0), (2, 0), (3, 1), (4, 1), (5, 1), (6, 0)] ?_
     refine callG (impl_Interrupted_f (guestOr b g)).k ?_
     refine callG (impl_WithGuest_f b g (interrupted (guestOr b g))).k ?_
     exact (by rw [step_yes (by assumption) (by assumption) (by assumption), st_1 (by omega)]; rfl)
    ·refine cnd (fun hb3 => ?_) (fun hb3 => ?_)
     ·refine regU [5] [(0, 0), (1, 0), (2, 0), (3, 1), (4, 1), (5, 1), (6, 0)] ?_
      refine callG (impl_Plainly_f (guestOr b g)).k ?_
      refine callG (impl_WithGuest_f b g (plainly (guestOr b g))).k ?_
      exact (by rw [step_yes (by assumption) (by assumption) (by assumption), st_2 (by omega)]; rfl)
     ·refine cnd (fun hb4 => ?_) (fun hb4 => ?_)
      ·refine regU [] [(0, 0), (1, 0), (2, 0), (4, 0), (3, 1), (5, 1), (6, 1), (7, 0), (8, 0), (9, 0), (10, 0), (11, 0)] ?_
       refine callP (impl_AddrPage_f _).k ?_
       refine callP (impl_NeedOf_f _).k ?_
       refine callG (impl_WalkInner_f _ _ _).k ?_
       refine cnd (fun hb5 => ?_) (fun hb5 => ?_)
       ·refine regU [9] [(0, 0), (1, 0), (2, 0), (3, 0), (5, 0), (4, 1), (6, 1), (7, 1), (8, 1), (9, 1), (10, 0)] ?_
        refine callP (impl_AddrPage_f _).k ?_
        refine callP (impl_FaultExit_f _ _).k ?_
        refine callG (impl_Stopped_f (guestOr b g) (faultExit (addrPage (address (guestOr b g))) (wantOf (guestOr b g) == 4))).k ?_
        refine callG (impl_WithGuest_f b g (stopped (guestOr b g) (faultExit (addrPage (address (guestOr b g))) (wantOf (guestOr b g) == 4)))).k ?_
        exact (by rw [step_yes (by assumption) (by assumption) (by assumption), st_w (w := (wantOf (guestOr b g) == 4)) (by omega) rfl, tc_no (by assumption)]; rfl)
       ·refine cnd (fun hb6 => ?_) (fun hb6 => ?_)
        ·refine regU [9] [(0, 0), (1, 0), (2, 0), (3, 0), (5, 0), (6, 0), (4, 1), (7, 1), (8, 0), (9, 1)] ?_
         refine callP (impl_AddrCell_f _).k ?_
         refine callL (impl_WithCell_f b.Memory ((walkX (guestOr b g) (wantOf (guestOr b g) == 4)).getD (-1)) (addrCell (address (guestOr b g))) (guestOr b g).A).k ?_
         refine regU [5] [(0, 0), (1, 0), (2, 0), (3, 1), (4, 1), (5, 1), (6, 0)] ?_
         refine callG (impl_Stored_f (guestOr b g)).k ?_
         refine callG (impl_WithGuest_f { b with Memory := (withCell b.Memory ((walkX (guestOr b g) (wantOf (guestOr b g) == 4)).getD (-1)) (addrCell (address (guestOr b g))) (guestOr b g).A) } g (moved (guestOr b g))).k ?_
         exact (by rw [step_yes (by assumption) (by assumption) (by assumption), st_w (w := (wantOf (guestOr b g) == 4)) (by omega) rfl, tc_w (by assumption) (by simpa using ‹_›)]; rfl)
        ·refine regU [11] [(0, 0), (1, 0), (2, 0), (3, 0), (4, 0), (5, 0), (6, 0), (7, 1), (8, 1), (9, 1), (10, 1), (11, 1), (12, 0)] ?_
         refine callP (impl_AddrCell_f _).k ?_
         refine callP (impl_CellAt_f b.Memory ((walkX (guestOr b g) (wantOf (guestOr b g) == 4)).getD (-1)) (addrCell (address (guestOr b g)))).k ?_
         refine callG (impl_Loaded_f (guestOr b g) (cellAt b.Memory ((walkX (guestOr b g) (wantOf (guestOr b g) == 4)).getD (-1)) (addrCell (address (guestOr b g))))).k ?_
         refine callG (impl_WithGuest_f b g (loaded (guestOr b g) (cellAt b.Memory ((walkX (guestOr b g) (wantOf (guestOr b g) == 4)).getD (-1)) (addrCell (address (guestOr b g)))))).k ?_
         exact (by rw [step_yes (by assumption) (by assumption) (by assumption), st_w (w := (wantOf (guestOr b g) == 4)) (by omega) rfl, tc_r (by assumption) (by simpa using ‹_›)]; rfl)
      ·refine cnd (fun hb7 => ?_) (fun hb7 => ?_)
       ·refine regU [] [(0, 0), (1, 0), (2, 0), (4, 0), (3, 1), (5, 1), (6, 1), (7, 0), (8, 0), (9, 0), (10, 0), (11, 0)] ?_
        refine callP (impl_AddrPage_f _).k ?_
        refine callP (impl_NeedOf_f _).k ?_
        refine callG (impl_WalkInner_f _ _ _).k ?_
        refine cnd (fun hb8 => ?_) (fun hb8 => ?_)
        ·refine regU [9] [(0, 0), (1, 0), (2, 0), (3, 0), (5, 0), (4, 1), (6, 1), (7, 1), (8, 1), (9, 1), (10, 0)] ?_
         refine callP (impl_AddrPage_f _).k ?_
         refine callP (impl_FaultExit_f _ _).k ?_
         refine callG (impl_Stopped_f (guestOr b g) (faultExit (addrPage (address (guestOr b g))) (wantOf (guestOr b g) == 4))).k ?_
         refine callG (impl_WithGuest_f b g (stopped (guestOr b g) (faultExit (addrPage (address (guestOr b g))) (wantOf (guestOr b g) == 4)))).k ?_
         exact (by rw [step_yes (by assumption) (by assumption) (by assumption), st_w (w := (wantOf (guestOr b g) == 4)) (by omega) rfl, tc_no (by assumption)]; rfl)
        ·refine cnd (fun hb9 => ?_) (fun hb9 => ?_)
         ·refine regU [9] [(0, 0), (1, 0), (2, 0), (3, 0), (5, 0), (6, 0), (4, 1), (7, 1), (8, 0), (9, 1)] ?_
          refine callP (impl_AddrCell_f _).k ?_
          refine callL (impl_WithCell_f b.Memory ((walkX (guestOr b g) (wantOf (guestOr b g) == 4)).getD (-1)) (addrCell (address (guestOr b g))) (guestOr b g).A).k ?_
          refine regU [5] [(0, 0), (1, 0), (2, 0), (3, 1), (4, 1), (5, 1), (6, 0)] ?_
          refine callG (impl_Stored_f (guestOr b g)).k ?_
          refine callG (impl_WithGuest_f { b with Memory := (withCell b.Memory ((walkX (guestOr b g) (wantOf (guestOr b g) == 4)).getD (-1)) (addrCell (address (guestOr b g))) (guestOr b g).A) } g (moved (guestOr b g))).k ?_
          exact (by rw [step_yes (by assumption) (by assumption) (by assumption), st_w (w := (wantOf (guestOr b g) == 4)) (by omega) rfl, tc_w (by assumption) (by simpa using ‹_›)]; rfl)
         ·refine regU [11] [(0, 0), (1, 0), (2, 0), (3, 0), (4, 0), (5, 0), (6, 0), (7, 1), (8, 1), (9, 1), (10, 1), (11, 1), (12, 0)] ?_
          refine callP (impl_AddrCell_f _).k ?_
          refine callP (impl_CellAt_f b.Memory ((walkX (guestOr b g) (wantOf (guestOr b g) == 4)).getD (-1)) (addrCell (address (guestOr b g)))).k ?_
          refine callG (impl_Loaded_f (guestOr b g) (cellAt b.Memory ((walkX (guestOr b g) (wantOf (guestOr b g) == 4)).getD (-1)) (addrCell (address (guestOr b g))))).k ?_
          refine callG (impl_WithGuest_f b g (loaded (guestOr b g) (cellAt b.Memory ((walkX (guestOr b g) (wantOf (guestOr b g) == 4)).getD (-1)) (addrCell (address (guestOr b g)))))).k ?_
          exact (by rw [step_yes (by assumption) (by assumption) (by assumption), st_w (w := (wantOf (guestOr b g) == 4)) (by omega) rfl, tc_r (by assumption) (by simpa using ‹_›)]; rfl)
       ·refine cnd (fun hb10 => ?_) (fun hb10 => ?_)
        ·refine regU [8] [(0, 0), (1, 0), (2, 0), (3, 0), (4, 0), (5, 1), (6, 1), (7, 1), (8, 1), (9, 0)] ?_
         refine callP (impl_CallExit_f _).k ?_
         refine callG (impl_Stopped_f (guestOr b g) (callExit (insAt (guestOr b g).Prog (guestOr b g).Pc).X)).k ?_
         refine callG (impl_WithGuest_f b g (stopped (guestOr b g) (callExit (insAt (guestOr b g).Prog (guestOr b g).Pc).X))).k ?_
         exact (by rw [step_yes (by assumption) (by assumption) (by assumption), st_6 (by omega)]; rfl)
        ·refine regQ ?_
         refine callQ (impl_trapOf_f _).k ?_
         refine callQ (impl_HasTrap_f _ _).k ?_
         refine cnd (fun hb11 => ?_) (fun hb11 => ?_)
         ·refine regU [6] [(0, 0), (1, 0), (2, 0), (3, 0), (4, 1), (5, 1), (6, 1), (7, 0)] ?_
          refine callG (impl_trapped_f (guestOr b g) (wantOf (guestOr b g))).k ?_
          refine callG (impl_WithGuest_f b g (trapped (guestOr b g) (wantOf (guestOr b g)))).k ?_
          exact (by rw [step_yes (by assumption) (by assumption) (by assumption), st_t (by omega) (by assumption)]; rfl)
         ·refine cnd (fun hb12 => ?_) (fun hb12 => ?_)
          ·refine regU [8] [(0, 0), (1, 0), (2, 0), (4, 0), (5, 0), (3, 1), (6, 1), (7, 1), (8, 1), (9, 0)] ?_
           refine callG (impl_PutOut_f b (insAt (guestOr b g).Prog (guestOr b g).Pc).X).k ?_
           refine callG (impl_Moved_f (guestOr b g)).k ?_
           refine callG (impl_WithGuest_f (putOut b (insAt (guestOr b g).Prog (guestOr b g).Pc).X) g (moved (guestOr b g))).k ?_
           exact (by rw [step_yes (by assumption) (by assumption) (by assumption), st_5 (by omega) (by assumption)]; rfl)
          ·refine regU [5] [(0, 0), (1, 0), (2, 0), (3, 1), (4, 1), (5, 1), (6, 0)] ?_
           refine callG (impl_Held_f (guestOr b g)).k ?_
           refine callG (impl_WithGuest_f b g (held (guestOr b g))).k ?_
           exact (by rw [step_yes (by assumption) (by assumption) (by assumption), st_7 (by omega) (by assumption)]; rfl)
theorem spec_BareStep_f (b : VBare) (g : Int) [Q (SmBare b)] : Fun Tryz.prog 234 [A (rBare b), I g] (RG [.a (rBare ((bareStep b g).getD b)), .c (.v (.bool (bareStep b g).isSome))]) := by
 refine Fun.w 141 Tryz.func234 fun w g0 _ => ?_
 refine callG (spec_l17Copy_f b).k ?_
 refine callG (spec_GuestAt_f b g).k ?_
 refine callP (spec_WantOf_f _).k ?_
 refine cnd (fun hg2 => ?_) (fun hg2 => ?_)
 ·exact (by rw [step_no (by first | (left; assumption) | (right; left; assumption) | (right; right; assumption))]; rfl)
 ·refine callP (spec_BareOk_f _).k ?_
  refine cnd (fun hg7 => ?_) (fun hg7 => ?_)
  ·exact (by rw [step_no (by first | (left; assumption) | (right; left; assumption) | (right; right; assumption))]; rfl)
  ·refine cnd (fun hb => ?_) (fun hb => ?_)
   ·exact (by rw [step_no (by first | (left; assumption) | (right; left; assumption) | (right; right; assumption))]; rfl)
   ·have hxo := guestOr_ok (b := b) (g := g) (by assumption) (by assumption)
    have hxr := guest_rng hxo
    have hxa := addr_le hxo
    have qx : Q (SmGuest (guestOr b g)) := inferInstance
    have qp : Q (-9223372036854775808 ≤ (guestOr b g).Pc) := ⟨by omega⟩
    have qa : Q (address (guestOr b g) ≤ 9223372036854775807) := ⟨by omega⟩
    have hgg := at_some.1 (by assumption : (at? b.Guests g).isSome = true)
    obtain ⟨x, hx⟩ : ∃ x, b.Guests[g.toNat]? = some x := ⟨_, List.getElem?_eq_getElem (by omega)⟩
    refine cnd (fun hb2 => ?_) (fun hb2 => ?_)
    ·refine regU [6] [(0, 0), (1, 0), (2, 0), (3, 0), (4, 1), (5, 0), (6, 1)] ?_
     refine callG (spec_Interrupted_f (guestOr b g)).k ?_
     first | refine ixm (by assumption) ?_ | refine bnd ?_ | refine bndi ?_ | refine ixkq (fun y72 hy72 qy72 ly72 => ?_) | refine ixiq (fun y72 hy72 qy72 ly72 => ?_)
     first | refine ixs ?_ | refine ixo (by assumption) ?_ | refine ixoq (fun z1 hz1 qz1 lz1 => ?_) | skip
     exact (by rw [step_yes (by assumption) (by assumption) (by assumption), st_1 (by omega), with_in hgg.1]; simp only [Option.getD, rBare, List.map_set]; rfl)
    ·refine cnd (fun hb3 => ?_) (fun hb3 => ?_)
     ·refine regU [6] [(0, 0), (1, 0), (2, 0), (3, 0), (4, 1), (5, 0), (6, 1)] ?_
      refine callG (spec_Plainly_f (guestOr b g)).k ?_
      first | refine ixm (by assumption) ?_ | refine bnd ?_ | refine bndi ?_ | refine ixkq (fun y80 hy80 qy80 ly80 => ?_) | refine ixiq (fun y80 hy80 qy80 ly80 => ?_)
      first | refine ixs ?_ | refine ixo (by assumption) ?_ | refine ixoq (fun z2 hz2 qz2 lz2 => ?_) | skip
      exact (by rw [step_yes (by assumption) (by assumption) (by assumption), st_2 (by omega), with_in hgg.1]; simp only [Option.getD, rBare, List.map_set]; rfl)
     ·refine cnd (fun hb4 => ?_) (fun hb4 => ?_)
      ·refine callP (spec_Address_f (guestOr b g)).k ?_
       refine regU [] [(0, 0), (1, 0), (2, 0), (4, 0), (3, 1), (5, 1), (6, 1), (7, 0), (8, 0), (9, 0), (10, 0), (11, 0)] ?_
       refine callP (spec_AddrPage_f _).k ?_
       refine callP (spec_NeedOf_f _).k ?_
       refine callG (spec_WalkInner_f _ _ _).k ?_
       refine cnd (fun hb5 => ?_) (fun hb5 => ?_)
       ·refine regU [10] [(0, 0), (1, 0), (2, 0), (3, 0), (4, 0), (6, 0), (5, 1), (7, 1), (8, 1), (9, 0), (10, 1)] ?_
        refine callP (spec_AddrPage_f _).k ?_
        refine callP (spec_FaultExit_f _ _).k ?_
        refine callG (spec_Stopped_f (guestOr b g) (faultExit (addrPage (address (guestOr b g))) (wantOf (guestOr b g) == 4))).k ?_
        first | refine ixm (by assumption) ?_ | refine bnd ?_ | refine bndi ?_ | refine ixkq (fun y122 hy122 qy122 ly122 => ?_) | refine ixiq (fun y122 hy122 qy122 ly122 => ?_)
        first | refine ixs ?_ | refine ixo (by assumption) ?_ | refine ixoq (fun z3 hz3 qz3 lz3 => ?_) | skip
        exact (by rw [step_yes (by assumption) (by assumption) (by assumption), st_w (w := (wantOf (guestOr b g) == 4)) (by omega) rfl, tc_no (by assumption), with_in hgg.1]; simp only [Option.getD, rBare, List.map_set]; rfl)
       ·refine cnd (fun hb6 => ?_) (fun hb6 => ?_)
        ·refine regU [9] [(0, 0), (1, 0), (2, 0), (3, 0), (5, 0), (6, 0), (4, 1), (7, 1), (8, 0), (9, 1)] ?_
         refine callP (spec_AddrCell_f _).k ?_
         refine callL (spec_WithCell_f b.Memory ((walkX (guestOr b g) (wantOf (guestOr b g) == 4)).getD (-1)) (addrCell (address (guestOr b g))) (guestOr b g).A).k ?_
         refine regU [6] [(0, 0), (1, 0), (2, 0), (3, 0), (4, 1), (5, 0), (6, 1)] ?_
         refine callG (spec_Stored_f (guestOr b g)).k ?_
         first | refine ixm (by assumption) ?_ | refine bnd ?_ | refine bndi ?_ | refine ixkq (fun y139 hy139 qy139 ly139 => ?_) | refine ixiq (fun y139 hy139 qy139 ly139 => ?_)
         first | refine ixs ?_ | refine ixo (by assumption) ?_ | refine ixoq (fun z4 hz4 qz4 lz4 => ?_) | skip
         exact (by rw [step_yes (by assumption) (by assumption) (by assumption), st_w (w := (wantOf (guestOr b g) == 4)) (by omega) rfl, tc_w (by assumption) (by simpa using ‹_›), with_in hgg.1]; simp only [Option.getD, rBare, List.map_set]; rfl)
        ·refine regU [12] [(0, 0), (1, 0), (2, 0), (3, 0), (4, 0), (5, 0), (6, 0), (7, 0), (8, 1), (9, 1), (10, 1), (11, 0), (12, 1)] ?_
         refine callP (spec_AddrCell_f _).k ?_
         refine callP (spec_CellAt_f b.Memory ((walkX (guestOr b g) (wantOf (guestOr b g) == 4)).getD (-1)) (addrCell (address (guestOr b g)))).k ?_
         refine callG (spec_Loaded_f (guestOr b g) (cellAt b.Memory ((walkX (guestOr b g) (wantOf (guestOr b g) == 4)).getD (-1)) (addrCell (address (guestOr b g))))).k ?_
         first | refine ixm (by assumption) ?_ | refine bnd ?_ | refine bndi ?_ | refine ixkq (fun y109 hy109 qy109 ly109 => ?_) | refine ixiq (fun y109 hy109 qy109 ly109 => ?_)
         first | refine ixs ?_ | refine ixo (by assumption) ?_ | refine ixoq (fun z5 hz5 qz5 lz5 => ?_) | skip
         exact (by rw [step_yes (by assumption) (by assumption) (by assumption), st_w (w := (wantOf (guestOr b g) == 4)) (by omega) rfl, tc_r (by assumption) (by simpa using ‹_›), with_in hgg.1]; simp only [Option.getD, rBare, List.map_set]; rfl)
      ·refine cnd (fun hb7 => ?_) (fun hb7 => ?_)
       ·refine callP (spec_Address_f (guestOr b g)).k ?_
        refine regU [] [(0, 0), (1, 0), (2, 0), (4, 0), (3, 1), (5, 1), (6, 1), (7, 0), (8, 0), (9, 0), (10, 0), (11, 0)] ?_
        refine callP (spec_AddrPage_f _).k ?_
        refine callP (spec_NeedOf_f _).k ?_
        refine callG (spec_WalkInner_f _ _ _).k ?_
        refine cnd (fun hb8 => ?_) (fun hb8 => ?_)
        ·refine regU [10] [(0, 0), (1, 0), (2, 0), (3, 0), (4, 0), (6, 0), (5, 1), (7, 1), (8, 1), (9, 0), (10, 1)] ?_
         refine callP (spec_AddrPage_f _).k ?_
         refine callP (spec_FaultExit_f _ _).k ?_
         refine callG (spec_Stopped_f (guestOr b g) (faultExit (addrPage (address (guestOr b g))) (wantOf (guestOr b g) == 4))).k ?_
         first | refine ixm (by assumption) ?_ | refine bnd ?_ | refine bndi ?_ | refine ixkq (fun y122 hy122 qy122 ly122 => ?_) | refine ixiq (fun y122 hy122 qy122 ly122 => ?_)
         first | refine ixs ?_ | refine ixo (by assumption) ?_ | refine ixoq (fun z6 hz6 qz6 lz6 => ?_) | skip
         exact (by rw [step_yes (by assumption) (by assumption) (by assumption), st_w (w := (wantOf (guestOr b g) == 4)) (by omega) rfl, tc_no (by assumption), with_in hgg.1]; simp only [Option.getD, rBare, List.map_set]; rfl)
        ·refine cnd (fun hb9 => ?_) (fun hb9 => ?_)
         ·refine regU [9] [(0, 0), (1, 0), (2, 0), (3, 0), (5, 0), (6, 0), (4, 1), (7, 1), (8, 0), (9, 1)] ?_
          refine callP (spec_AddrCell_f _).k ?_
          refine callL (spec_WithCell_f b.Memory ((walkX (guestOr b g) (wantOf (guestOr b g) == 4)).getD (-1)) (addrCell (address (guestOr b g))) (guestOr b g).A).k ?_
          refine regU [6] [(0, 0), (1, 0), (2, 0), (3, 0), (4, 1), (5, 0), (6, 1)] ?_
          refine callG (spec_Stored_f (guestOr b g)).k ?_
          first | refine ixm (by assumption) ?_ | refine bnd ?_ | refine bndi ?_ | refine ixkq (fun y139 hy139 qy139 ly139 => ?_) | refine ixiq (fun y139 hy139 qy139 ly139 => ?_)
          first | refine ixs ?_ | refine ixo (by assumption) ?_ | refine ixoq (fun z7 hz7 qz7 lz7 => ?_) | skip
          exact (by rw [step_yes (by assumption) (by assumption) (by assumption), st_w (w := (wantOf (guestOr b g) == 4)) (by omega) rfl, tc_w (by assumption) (by simpa using ‹_›), with_in hgg.1]; simp only [Option.getD, rBare, List.map_set]; rfl)
         ·refine regU [12] [(0, 0), (1, 0), (2, 0), (3, 0), (4, 0), (5, 0), (6, 0), (7, 0), (8, 1), (9, 1), (10, 1), (11, 0), (12, 1)] ?_
          refine callP (spec_AddrCell_f _).k ?_
          refine callP (spec_CellAt_f b.Memory ((walkX (guestOr b g) (wantOf (guestOr b g) == 4)).getD (-1)) (addrCell (address (guestOr b g)))).k ?_
          refine callG (spec_Loaded_f (guestOr b g) (cellAt b.Memory ((walkX (guestOr b g) (wantOf (guestOr b g) == 4)).getD (-1)) (addrCell (address (guestOr b g))))).k ?_
          first | refine ixm (by assumption) ?_ | refine bnd ?_ | refine bndi ?_ | refine ixkq (fun y109 hy109 qy109 ly109 => ?_) | refine ixiq (fun y109 hy109 qy109 ly109 => ?_)
          first | refine ixs ?_ | refine ixo (by assumption) ?_ | refine ixoq (fun z8 hz8 qz8 lz8 => ?_) | skip
          exact (by rw [step_yes (by assumption) (by assumption) (by assumption), st_w (w := (wantOf (guestOr b g) == 4)) (by omega) rfl, tc_r (by assumption) (by simpa using ‹_›), with_in hgg.1]; simp only [Option.getD, rBare, List.map_set]; rfl)
       ·refine callG (spec_l18Trap_f (guestOr b g) (guestOr b g).Ctl.Traps (wantOf (guestOr b g))).k ?_
        refine cnd (fun hg1 => ?_) (fun hg1 => ?_)
        ·refine cnd (fun hb10 => ?_) (fun hb10 => ?_)
         ·refine regU [8] [(0, 0), (1, 0), (2, 0), (3, 0), (4, 0), (5, 1), (6, 0), (7, 1), (8, 1)] ?_
          refine callP (spec_InsAt_f _ _).k ?_
          refine callG (spec_PutOut_f b (insAt (guestOr b g).Prog (guestOr b g).Pc).X).k ?_
          have hx2 : (putOut b (insAt (guestOr b g).Prog (guestOr b g).Pc).X).Guests[g.toNat]? = some x := by rw [putOut_guests]; exact hx
          first | refine bndi ?_ | refine bndi ?_ (by simp only [List.length_map, putOut_guests]; omega)
          first | refine ixs ?_ | refine ixo (by assumption) ?_ | refine ixoq (fun z9 hz9 qz9 lz9 => ?_) | skip
          exact (by rw [step_yes (by assumption) (by assumption) (by assumption), tb_went (by omega) (by first | exact ⟨by assumption, by omega⟩), with_in hgg.1]; simp only [Option.getD, rBare, List.map_set]; rfl)
         ·have hx2 : (putOut b (insAt (guestOr b g).Prog (guestOr b g).Pc).X).Guests[g.toNat]? = some x := by rw [putOut_guests]; exact hx
          first | refine bndi ?_ | refine bndi ?_ (by simp only [List.length_map, putOut_guests]; omega)
          first | refine ixs ?_ | refine ixo (by assumption) ?_ | refine ixoq (fun z10 hz10 qz10 lz10 => ?_) | skip
          exact (by rw [step_yes (by assumption) (by assumption) (by assumption), tb_not (by omega) (by first | (left; assumption) | (right; omega)), with_in hgg.1]; simp only [Option.getD, rBare, List.map_set]; rfl)
        ·have hx2 : (putOut b (insAt (guestOr b g).Prog (guestOr b g).Pc).X).Guests[g.toNat]? = some x := by rw [putOut_guests]; exact hx
         first | refine bndi ?_ | refine bndi ?_ (by simp only [List.length_map, putOut_guests]; omega)
         first | refine ixs ?_ | refine ixo (by assumption) ?_ | refine ixoq (fun z11 hz11 qz11 lz11 => ?_) | skip
         exact (by rw [step_yes (by assumption) (by assumption) (by assumption), tb_not (by omega) (by first | (left; assumption) | (right; omega)), with_in hgg.1]; simp only [Option.getD, rBare, List.map_set]; rfl)
end Go.Proofs.YteelmdpahpggkaaGreat.T

