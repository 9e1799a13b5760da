
import Derived.Test.YteelmdpahpggkaaGreatRpp
namespace Go.Proofs.YteelmdpahpggkaaGreat.T
open Go
set_option linter.unusedVariables false
set_option linter.unusedSimpArgs false
set_option maxRecDepth 100000
set_option maxHeartbeats 8000000
abbrev guestOr (b : VBare) (g : Int) : VGuest := (at? b.Guests g).getD noGuest
theorem at_mem {α : Type} {xs : List α} {i : Int} {r : α} (h : at? xs i = some r) : r ∈ xs := by
 unfold at? at h
 split at h
 ·exact List.mem_of_getElem? h
 ·cases h
theorem putOut_guests {b : VBare} {n : Int} : (putOut b n).Guests = b.Guests := by unfold putOut; split <;> rfl
theorem guestAt_out {b : VBare} {g : Int} (hg : ¬ (0 ≤ g ∧ g < b.Guests.length)) : at? b.Guests g = none := at_out hg
theorem guestAt_in {b : VBare} {g : Int} {x : VGuest} (h0 : 0 ≤ g) (hx : b.Guests[g.toNat]? = some x) : at? b.Guests g = some x := at_in h0 hx
theorem sm_noGuest : SmGuest noGuest := ⟨by simp [SmInsS], by simp [SmSlotS], by simp [SmSlotS], by simp [SmIntS]⟩
theorem sm_guestOr {b : VBare} {g : Int} (hb : SmBare b) : SmGuest (guestOr b g) := by
 unfold guestOr
 cases h1 : at? b.Guests g with
 | none => exact sm_noGuest
 | some x =>
  unfold at? at h1
  split at h1
  ·exact hb.2.1.2 x (List.mem_of_getElem? h1)
  ·cases h1
instance (b : VBare) (g : Int) [hb : Q (SmBare b)] : Q (SmGuest (guestOr b g)) := ⟨sm_guestOr hb.h⟩
theorem with_out {b : VBare} {g : Int} {x : VGuest} (hg : ¬ (0 ≤ g ∧ g < b.Guests.length)) : withGuest b g x = b := by unfold withGuest; rw [put_out hg]
theorem with_in {b : VBare} {g : Int} {x : VGuest} (h0 : 0 ≤ g) : withGuest b g x = { b with Guests := b.Guests.set g.toNat x } := by unfold withGuest; rw [put_in h0]
theorem sm_with {b : VBare} {g : Int} {x : VGuest} (hb : SmBare b) (hx : SmGuest x) : SmBare (withGuest b g x) := by
 refine ⟨hb.1, ⟨?_, fun y hy => ?_⟩, hb.2.2⟩
 ·show (put b.Guests g x).length ≤ _
  rw [put_len]; exact hb.2.1.1
 ·have hy : y ∈ put b.Guests g x := hy
  unfold put at hy
  split at hy
  ·rcases List.mem_or_eq_of_mem_set hy with hy | rfl
   ·exact hb.2.1.2 y hy
   ·exact hx
  ·exact hb.2.1.2 y hy
instance (b : VBare) (g : Int) (x : VGuest) [hb : Q (SmBare b)] [hx : Q (SmGuest x)] : Q (SmBare (withGuest b g x)) := ⟨sm_with hb.h hx.h⟩
theorem out_row {b : VBare} {n : Int} (h : b.Outs.length < 40) : putOut b n = { b with Outs := b.Outs ++ [n] } := by unfold putOut; rw [if_pos h]
theorem out_full {b : VBare} {n : Int} (h : ¬ b.Outs.length < 40) : putOut b n = b := by unfold putOut; rw [if_neg h]
theorem sm_putOut {b : VBare} {n : Int} (hb : SmBare b) : SmBare (putOut b n) := by
 unfold putOut
 split
 ·refine ⟨hb.1, hb.2.1, ?_⟩
  show (b.Outs ++ [n]).length ≤ _
  rw [List.length_append, List.length_singleton]; omega
 ·exact hb
instance (b : VBare) (n : Int) [hb : Q (SmBare b)] : Q (SmBare (putOut b n)) := ⟨sm_putOut hb.h⟩
def onG (b : VBare) (g : Int) : Bool := bareOk b && decide (0 ≤ g ∧ g < b.Guests.length)
theorem spec_GuestAt_f (b : VBare) (g : Int) [Q (SmBare b)] : Fun Tryz.prog 310 [A (rBare b), I g] (RG [.a (rGuest (guestOr b g)), .c (.v (.bool (at? b.Guests g).isSome))]) := by
 refine Fun.w 20 Tryz.func310 fun w g0 hM => ?_
 have hl0 := hM.1.2.1.map
 refine len ?_
 refine rng ?_
 refine callP (spec_l01In_f _ _ _).k ?_
 refine cnd (fun hb => ?_) (fun hb => ?_)
 ·exact (by first | (rw [guestOr, guestAt_out (by omega)]; rfl) | (rw [guestOr, guestAt_in (by omega) (by assumption)]; rfl))
 ·first | refine ixm (by assumption) ?_ | refine bnd ?_ | refine bndi ?_ | refine ixkq (fun y17 hy17 qy17 ly17 => ?_) | refine ixiq (fun y17 hy17 qy17 ly17 => ?_)
  first | refine ixs ?_ | refine ixo (by assumption) ?_ | refine ixoq (fun z1 hz1 qz1 lz1 => ?_) | skip
  refine callG (spec_l15Copy_f _).k ?_
  exact (by first | (rw [guestOr, guestAt_out (by omega)]; rfl) | (rw [guestOr, guestAt_in (by omega) (by assumption)]; rfl))
theorem impl_GuestAt_f (b : VBare) (g : Int) [Q (SmBare b)] : Fun Tryz.prog 414 [A (rBare b), I g] (RG [.a (rGuest (guestOr b g)), .c (.v (.bool (at? b.Guests g).isSome))]) := by
 refine Fun.w 19 Tryz.func414 fun w g0 hM => ?_
 have hl0 := hM.1.2.1.map
 refine len ?_
 refine callP (impl_has_f _ _).k ?_
 refine cnd (fun hb => ?_) (fun hb => ?_)
 ·exact (by first | (rw [guestOr, guestAt_out (by omega)]; rfl) | (rw [guestOr, guestAt_in (by omega) (by assumption)]; rfl))
 ·first | refine ixm (by assumption) ?_ | refine bnd ?_ | refine bndi ?_ | refine ixkq (fun y16 hy16 qy16 ly16 => ?_) | refine ixiq (fun y16 hy16 qy16 ly16 => ?_)
  first | refine ixs ?_ | refine ixo (by assumption) ?_ | refine ixoq (fun z1 hz1 qz1 lz1 => ?_) | skip
  refine callG (impl_copyGuest_f _).k ?_
  exact (by first | (rw [guestOr, guestAt_out (by omega)]; rfl) | (rw [guestOr, guestAt_in (by omega) (by assumption)]; rfl))
theorem impl_GuestAt_r (b : VBare) (g : Int) [Q (SmBare b)] : FunA Tryz.prog 414 [A (rBare b), I g] (.tup [.agg ((rGuest (guestOr b g)).map C.ro), .c (.ro (.v (.bool (at? b.Guests g).isSome)))]) := by
 refine FunA.w 19 Tryz.func414 fun w g0 hM => ?_
 have hl0 := hM.1.2.1.map
 refine len ?_
 refine callP (impl_has_f _ _).k ?_
 refine cnd (fun hb => ?_) (fun hb => ?_)
 ·exact (by (repeat refine WholeW.mk WD.w ?_); first | (rw [guestOr, guestAt_out (by omega)]; rfl) | (rw [guestOr, guestAt_in (by omega) (by assumption)]; rfl))
 ·first | refine ixm (by assumption) ?_ | refine bnd ?_ | refine bndi ?_ | refine ixkq (fun y16 hy16 qy16 ly16 => ?_) | refine ixiq (fun y16 hy16 qy16 ly16 => ?_)
  first | refine ixs ?_ | refine ixo (by assumption) ?_ | refine ixoq (fun z1 hz1 qz1 lz1 => ?_) | skip
  refine callG (impl_copyGuest_f _).k ?_
  exact (by (repeat refine WholeW.mk WD.w ?_); first | (rw [guestOr, guestAt_out (by omega)]; rfl) | (rw [guestOr, guestAt_in (by omega) (by assumption)]; rfl))
theorem impl_WithGuest_f (b : VBare) (g : Int) (x : VGuest) [Q (SmBare b)] [Q (SmGuest x)] : Fun Tryz.prog 416 [A (rBare b), I g, A (rGuest x)] (RG [.a (rBare (withGuest b g x))]) := by
 refine Fun.w 22 Tryz.func416 fun w g0 hM => ?_
 have hl0 := hM.1.2.1.map
 refine callG (impl_copyBare_f b).k ?_
 refine len ?_
 refine callP (impl_has_f _ _).k ?_
 refine cnd (fun hb => ?_) (fun hb => ?_)
 ·refine regU [6] [(0, 0), (1, 0), (2, 0), (3, 0), (4, 1), (5, 0), (6, 1)] ?_
  refine callG (impl_copyGuest_f x).k ?_
  first | refine ixm (by assumption) ?_ | refine bnd ?_ | refine bndi ?_ | refine ixkq (fun y20 hy20 qy20 ly20 => ?_) | refine ixiq (fun y20 hy20 qy20 ly20 => ?_)
  first | refine ixs ?_ | refine ixo (by assumption) ?_ | refine ixoq (fun z1 hz1 qz1 lz1 => ?_) | skip
  exact (by first | (rw [with_out (by omega)]; rfl) | (rw [with_in (by omega)]; simp only [rBare, List.map_set]; rfl))
 ·exact (by first | (rw [with_out (by omega)]; rfl) | (rw [with_in (by omega)]; simp only [rBare, List.map_set]; rfl))
theorem spec_PutOut_f (b : VBare) (n : Int) [Q (SmBare b)] : Fun Tryz.prog 326 [A (rBare b), I n] (RG [.a (rBare (putOut b n))]) := by
 refine Fun.w 18 Tryz.func326 fun w g0 _ => ?_
 refine callG (spec_l17Copy_f b).k ?_
 refine len ?_
 refine cnd (fun hb => ?_) (fun hb => ?_)
 ·first | refine appPq ?_ | refine appP ?_
  exact (by first | (rw [out_full (by omega)]; rfl) | (rw [out_row (by omega)]; simp only [rBare, List.map_append]; rfl))
 ·exact (by first | (rw [out_full (by omega)]; rfl) | (rw [out_row (by omega)]; simp only [rBare, List.map_append]; rfl))
theorem impl_PutOut_f (b : VBare) (n : Int) [Q (SmBare b)] : Fun Tryz.prog 424 [A (rBare b), I n] (RG [.a (rBare (putOut b n))]) := by
 refine Fun.w 19 Tryz.func424 fun w g0 _ => ?_
 refine callG (impl_copyBare_f b).k ?_
 refine len ?_
 refine cnd (fun hb => ?_) (fun hb => ?_)
 ·first | refine appPq ?_ | refine appP ?_
  exact (by first | (rw [out_full (by omega)]; rfl) | (rw [out_row (by omega)]; simp only [rBare, List.map_append]; rfl))
 ·exact (by first | (rw [out_full (by omega)]; rfl) | (rw [out_row (by omega)]; simp only [rBare, List.map_append]; rfl))
theorem spec_l19Is_f (b : VBare) (g : Int) [Q (SmBare b)] : Fun Tryz.prog 328 [A (rBare b), I g] (RV (.bool (onG b g))) := by
 refine Fun.w 15 Tryz.func328 fun w g0 hM => ?_
 have hl0 := hM.1.2.1.map
 refine callP (spec_BareOk_f _).k ?_
 refine cnd (fun hg2 => ?_) (fun hg2 => ?_)
 ·refine len ?_
  refine rng ?_
  refine callP (spec_l01In_f _ _ _).k ?_
  exact resV (by first | (simp [onG, *]; done) | (refine congrArg Value.bool ?_; rw [Bool.eq_iff_iff]; simp [onG, *]; omega))
 ·exact resV (by first | (simp [onG, *]; done) | (refine congrArg Value.bool ?_; rw [Bool.eq_iff_iff]; simp [onG, *]; omega))
theorem impl_ExitOf_f (b : VBare) (g : Int) [Q (SmBare b)] : Fun Tryz.prog 431 [A (rBare b), I g] (RP (A (rExit (guestOr b g).Exit))) := by
 refine Fun.w 15 Tryz.func431 fun w g0 _ => ?_
 refine callG (impl_GuestAt_f b g).k ?_
 exact rfl
end Go.Proofs.YteelmdpahpggkaaGreat.T

