
import Derived.Test.YteelmdpahpggkaaGreatNyp
import Derived.Test.YteelmdpahpggkaaGreatHbp
import Derived.Test.YteelmdpahpggkaaGreatHcp
import Derived.Test.YteelmdpahpggkaaGreatHep
import Derived.Test.YteelmdpahpggkaaGreatHfp
import Derived.Test.YteelmdpahpggkaaGreatOep
namespace Go.Proofs.YteelmdpahpggkaaGreat.T
open Go
set_option linter.unusedVariables false
set_option linter.unusedSimpArgs false
set_option maxRecDepth 100000
set_option maxHeartbeats 8000000
theorem cntFold_most {α : Type} {c : α → Int} {N : Int} : ∀ {xs : List α}, (∀ x ∈ xs, c x ≤ N) → cntFold c xs ≤ N * xs.length
 | [], _ => by simp [cntFold]
 | x :: l, h => by
  have h1 := h x List.mem_cons_self
  have h2 := cntFold_most (xs := l) fun y hy => h y (List.mem_cons_of_mem _ hy)
  simp only [cntFold, List.length_cons]
  have h3 : N * ((l.length + 1 : Nat) : Int) = N * l.length + N := by rw [Int.natCast_add, Int.mul_add]; simp
  omega
theorem cntFold_cap {α : Type} {c : α → Int} {N : Int} {xs : List α} (hN : 0 ≤ N) (h : ∀ x ∈ xs, c x ≤ N) (hl : xs.length ≤ 1048576) : cntFold c xs ≤ N * 1048576 :=
 Int.le_trans (cntFold_most h) (Int.mul_le_mul_of_nonneg_left (by omega) hN)
theorem cap_IntS {xs : List Int} (h : SmIntS xs) : cntIntS xs ≤ 1048576 := by
 have := cntFold_cap (c := cntEInt) (N := 1) (by decide) (fun x _ => by simp [cntEInt]) h
 unfold cntIntS
 omega
theorem cap_SlotS {xs : List VSlot} (h : SmSlotS xs) : cntSlotS xs ≤ 2097152 := by
 have := cntFold_cap (c := cntESlot) (N := 2) (by decide) (fun x _ => by simp [cntESlot]) h
 unfold cntSlotS
 omega
theorem cap_InsS {xs : List VIns} (h : SmInsS xs) : cntInsS xs ≤ 2097152 := by
 have := cntFold_cap (c := cntEIns) (N := 2) (by decide) (fun x _ => by simp [cntEIns]) h
 unfold cntInsS
 omega
theorem cap_BoolS {xs : List Bool} (h : SmBoolS xs) : cntBoolS xs ≤ 1048576 := by
 have := cntFold_cap (c := cntEBool) (N := 1) (by decide) (fun x _ => by simp [cntEBool]) h
 unfold cntBoolS
 omega
theorem cap_IntSS {xs : List (List Int)} (h : SmIntSS xs) : cntIntSS xs ≤ 1099511627776 := by
 have := cntFold_cap (c := cntEIntS) (N := 1048576) (by decide) (fun x hx => cap_IntS (h.2 x hx)) h.1
 unfold cntIntSS
 omega
theorem cap_Guest {x : VGuest} (h : SmGuest x) : cntEGuest x ≤ 8388608 := by
 have h1 := cap_InsS h.1
 have h2 := cap_SlotS h.2.1
 have h3 := cap_SlotS h.2.2.1
 have h4 := cap_IntS h.2.2.2
 unfold cntEGuest
 omega
theorem cap_GuestS {xs : List VGuest} (h : SmGuestS xs) : cntGuestS xs ≤ 8796093022208 := by
 have := cntFold_cap (c := cntEGuest) (N := 8388608) (by decide) (fun x hx => cap_Guest (h.2 x hx)) h.1
 unfold cntGuestS
 omega
theorem cap_KeptS {xs : List VKept} (h : SmKeptS xs) : cntKeptS xs ≤ 4398046511104 := by
 have := cntFold_cap (c := cntEKept) (N := 4194304) (by decide) (fun x hx => by
  have h1 := cap_BoolS (h.2 x hx).1
  have h2 := cap_SlotS (h.2 x hx).2
  unfold cntEKept
  omega) h.1
 unfold cntKeptS
 omega
theorem cap_Mon {x : VMon} (h : SmMon x) : cntVMon x ≤ 100000000000000 := by
 have h1 := cap_SlotS h.1
 have h2 := cap_IntSS h.2.1
 have h3 := cap_BoolS h.2.2.1
 have h4 := cap_GuestS h.2.2.2.1
 have h5 := cap_IntS h.2.2.2.2.1
 have h6 := cap_KeptS h.2.2.2.2.2
 unfold cntVMon
 omega
theorem sm_page {m : List (List Int)} (h : SmIntSS m) (n : Int) : SmIntS (pageAt m n) := by
 unfold pageAt at?
 split
 ·cases hx : m[n.toNat]? with
  | none => simp [SmIntS]
  | some x => exact h.2 x (List.mem_of_getElem? hx)
 ·simp [SmIntS]
theorem sm_pageOf {h : VHost} (hh : SmHost h) (m n : Int) : SmIntS (pageOf h m n) := by
 unfold pageOf
 cases hx : monAt h m with
 | none => simp [SmIntS]
 | some x =>
  have h1 : x = monOr h m := by simp [monOr, hx]
  have h2 : SmMon x := by rw [h1]; exact sm_monOr hh
  simp only
  split
  ·split
   ·exact sm_page hh.1 _
   ·exact sm_page h2.2.1 _
  ·simp [SmIntS]
theorem sm_fill {h : VHost} {v : VMove} (hh : SmHost h) : ∀ {l : List Int} {o : List (List Int)}, SmIntSS o → SmIntSS (fillLeft h v l o)
 | [], o, ho => ho
 | p :: l, o, ho => by
  rw [fillLeft]
  refine sm_fill hh ⟨by rw [putM_len]; exact ho.1, fun x hx => ?_⟩
  unfold put at hx
  split at hx
  ·rcases List.mem_or_eq_of_mem_set hx with hx | rfl
   ·exact ho.2 x hx
   ·exact sm_pageOf hh _ _
  ·exact ho.2 x hx
theorem sm_image {h : VHost} {v : VMove} (hh : SmHost h) (hv : SmMove v) : SmMon ((moveImage h v).getD noMon) := by
 unfold moveImage
 split
 ·cases hx : at? h.Mons v.M with
  | none => exact ⟨by simp [SmSlotS], ⟨by simp, fun x hx => by cases hx⟩, by simp [SmBoolS], ⟨by simp, fun x hx => by cases hx⟩, by simp [SmIntS], ⟨by simp, fun x hx => by cases hx⟩⟩
  | some x =>
   have h1 : x = monOr h v.M := by simp [monOr, monAt, hx]
   have h2 : SmMon x := by rw [h1]; exact sm_monOr hh
   refine ⟨by simp [SmSlotS, tableNew], sm_fill hh hv, by simp [SmBoolS], h2.2.2.2.1, h2.2.2.2.2.1, ⟨by simpa using h2.2.2.2.2.2.1, fun y hy => ?_⟩⟩
   obtain ⟨_, _, rfl⟩ := List.mem_map.1 hy
   exact ⟨by simp [keptNew, SmBoolS], by simp [keptNew, SmSlotS]⟩
 ·exact ⟨by simp [SmSlotS], ⟨by simp, fun x hx => by cases hx⟩, by simp [SmBoolS], ⟨by simp, fun x hx => by cases hx⟩, by simp [SmIntS], ⟨by simp, fun x hx => by cases hx⟩⟩
end Go.Proofs.YteelmdpahpggkaaGreat.T

namespace Go.Proofs.YteelmdpahpggkaaGreat.T
open Go
set_option linter.unusedVariables false
set_option linter.unusedSimpArgs false
set_option maxRecDepth 100000
set_option maxHeartbeats 8000000
theorem mc_no {h : VHost} {v : VMove} {p : Int} (hm : moves h v = false ∨ ¬ (0 ≤ p ∧ p < 8)) : moveCopy h v p = none := by
 unfold moveCopy
 refine if_neg fun e => ?_
 simp only [Bool.and_eq_true, inR, decide_eq_true_eq] at e
 rcases hm with hm | hm
 ·rw [hm] at e; cases e.1
 ·omega
theorem mc_yes {h : VHost} {v : VMove} {p : Int} (hm : moves h v = true) (hp : 0 ≤ p ∧ p < 8) : moveCopy h v p = some ((guard h v.M p).getD h, { v with Have := v.Have.set p.toNat (pageOf h v.M p) }) := by
 unfold moveCopy
 rw [if_pos (by simp only [Bool.and_eq_true, inR, decide_eq_true_eq]; exact ⟨hm, by omega⟩)]
 unfold put
 rw [if_pos hp.1]
theorem moves_has {h : VHost} {v : VMove} {p : Int} (h1 : hasPage h v.M p = true) (h2 : v.Have.length = 8) : moves h v = true ∧ 0 ≤ p ∧ p < 8 := by
 have h3 := hasPage_on.1 h1
 refine ⟨?_, by omega⟩
 unfold moves
 simp only [Bool.and_eq_true, decide_eq_true_eq]
 exact ⟨hasMon_on.2 ⟨h3.1, h3.2.1⟩, h2⟩
theorem has_no {h : VHost} {v : VMove} {p : Int} (h1 : hasPage h v.M p = false ∨ ¬ v.Have.length = 8) : moves h v = false ∨ ¬ (0 ≤ p ∧ p < 8) := by
 rw [← Bool.not_eq_true]
 rcases h1 with h1 | h1
 ·by_cases hm : moves h v = true
  ·refine .inr fun hp => ?_
   have h3 := moves_yes hm
   have : hasPage h v.M p = true := hasPage_on.2 ⟨h3.1, ⟨h3.2.1, h3.2.2.1⟩, by omega⟩
   rw [h1] at this
   cases this
  ·exact .inl hm
 ·exact .inl fun hm => h1 (moves_yes hm).2.2.2
theorem sm_slotted {h : VHost} {m p : Nat} {x : VMon} {z s : VSlot} (hh : SmHost h) (hx : SmMon x) : SmHost (slotted h m x p z s) := by
 refine ⟨hh.1, ⟨by show (h.Mons.set _ _).length ≤ _; rw [List.length_set]; exact hh.2.1.1, fun y hy => ?_⟩, ?_, ?_⟩
 ·rcases List.mem_or_eq_of_mem_set hy with hy | rfl
  ·exact hh.2.1.2 y hy
  ·exact ⟨by show (x.Outer.set _ _).length ≤ _; rw [List.length_set]; exact hx.1, hx.2.1, hx.2.2.1, hx.2.2.2.1, hx.2.2.2.2.1, sm_less hx⟩
 ·show SmEntryS (if _ then _ else _)
  split
  ·exact hh.2.2.1
  ·exact sm_flush hh.2.2.1
 ·show SmEntryS (if _ then _ else _)
  split
  ·exact hh.2.2.2
  ·exact sm_flush hh.2.2.2
theorem guard_cases {h : VHost} {m p : Int} : guard h m p = none ∨ ∃ x z, h.Mons[m.toNat]? = some x ∧ x.Outer[p.toNat]? = some z ∧ hostOk h = true ∧ (guard h m p = some (hostDirt h m.toNat x p.toNat) ∨ guard h m p = some (guarded h m.toNat x p.toNat z)) := by
 cases hp : hasPage h m p with
 | false => exact .inl (guard_no hp)
 | true =>
  have hpg := hasPage_on.1 hp
  have hx : h.Mons[m.toNat]? = some (h.Mons[m.toNat]'(by omega)) := List.getElem?_eq_getElem (by omega)
  have hmo := mon_outer (host_mon hpg.1 hx)
  have hz : (h.Mons[m.toNat]'(by omega)).Outer[p.toNat]? = some ((h.Mons[m.toNat]'(by omega)).Outer[p.toNat]'(by omega)) := List.getElem?_eq_getElem (by omega)
  refine .inr ⟨_, _, hx, hz, hpg.1, ?_⟩
  rcases Decidable.em (((h.Mons[m.toNat]'(by omega)).Outer[p.toNat]'(by omega)).Page = -1) with h1 | h1
  ·exact .inl (by rw [guard_yes hp, guardP_1 hx hz h1])
  ·exact .inr (by rw [guard_yes hp, guardP_2 hx hz h1])
theorem sm_guard {h : VHost} {m p : Int} (hh : SmHost h) : SmHost ((guard h m p).getD h) := by
 rcases @guard_cases h m p with h1 | ⟨x, z, hx, hz, _, h1⟩
 ·rw [h1]; exact hh
 ·have hm := hh.2.1.2 x (List.mem_of_getElem? hx)
  rcases h1 with h1 | h1
  ·rw [h1]; exact sm_setM hh (sm_dirt hm)
  ·rw [h1]; exact sm_slotted (sm_setM hh (sm_dirt hm)) (sm_dirt hm)
abbrev mcH (h : VHost) (v : VMove) (p : Int) : VHost := ((moveCopy h v p).map Prod.fst).getD h
abbrev mcV (h : VHost) (v : VMove) (p : Int) : VMove := ((moveCopy h v p).map Prod.snd).getD v
theorem sm_mcH {h : VHost} {v : VMove} {p : Int} (hh : SmHost h) : SmHost (mcH h v p) := by
 unfold mcH moveCopy
 split
 ·exact sm_guard hh
 ·exact hh
instance (h : VHost) (v : VMove) (p : Int) [hh : Q (SmHost h)] : Q (SmHost (mcH h v p)) := ⟨sm_mcH hh.h⟩
theorem sm_mcV {h : VHost} {v : VMove} {p : Int} (hh : SmHost h) (hv : SmMove v) : SmMove (mcV h v p) := by
 unfold mcV moveCopy
 split
 ·refine ⟨by show (put v.Have p _).length ≤ _; rw [putM_len]; exact hv.1, fun x hx => ?_⟩
  have hx : x ∈ put v.Have p (pageOf h v.M p) := hx
  unfold put at hx
  split at hx
  ·rcases List.mem_or_eq_of_mem_set hx with hx | rfl
   ·exact hv.2 x hx
   ·exact sm_pageOf hh _ _
  ·exact hv.2 x hx
 ·exact hv
instance (h : VHost) (v : VMove) (p : Int) [hh : Q (SmHost h)] [hv : Q (SmMove v)] : Q (SmMove (mcV h v p)) := ⟨sm_mcV hh.h hv.h⟩
theorem impl_MoveCopy_f (h : VHost) (v : VMove) (p : Int) [Q (SmHost h)] [Q (SmMove v)] : Fun Tryz.prog 40 [A (rHost h), A (rMove v), I p] (RG [.a (rHost (((moveCopy h v p).map Prod.fst).getD h)), .a (rMove (((moveCopy h v p).map Prod.snd).getD v)), .c (.v (.bool (moveCopy h v p).isSome))]) := by
 refine Fun.w 45 Tryz.func40 fun w g0 hM => ?_
 have hl0 := hM.1.2.1.map
 have hl1 := hM.2.1.2.1.map
 refine callG (impl_copyMove_f v).k ?_
 refine callP (impl_moves_f h v).k ?_
 refine cnd (fun hg4 => ?_) (fun hg4 => ?_)
 ·refine regT [0, 2, 3, 4] [] [] (.fork (.alt 0 (.fork (.alt 1 (.fork (.alt 2 (.fork (.alt 3 (.fork (.alt 4 (.quiet 5 0 .done) .stop)) .stop)) (.alt 3 (.fork (.alt 2 (.fork (.alt 4 (.quiet 5 0 .done) .stop)) .stop)) .stop))) (.alt 2 (.fork (.alt 1 (.fork (.alt 3 (.fork (.alt 4 (.quiet 5 0 .done) .stop)) .stop)) .stop)) .stop))) (.alt 2 (.fork (.alt 0 (.fork (.alt 1 (.fork (.alt 3 (.fork (.alt 4 (.quiet 5 0 .done) .stop)) .stop)) .stop)) .stop)) .stop))) ?_
  repeat' first | exact True.intro | refine And.intro ?_ ?_ | (intro _ _) | refine callG (impl_copyHost_f h).k ?_
  all_goals exact (by rw [mc_no (by first | (left; assumption) | (right; omega))]; rfl)
 ·refine callP (impl_has_f p 8).k ?_
  refine cnd (fun hb => ?_) (fun hb => ?_)
  ·refine regT [0, 2, 3, 4] [] [] (.fork (.alt 0 (.fork (.alt 1 (.fork (.alt 2 (.fork (.alt 3 (.fork (.alt 4 (.quiet 5 0 .done) .stop)) .stop)) (.alt 3 (.fork (.alt 2 (.fork (.alt 4 (.quiet 5 0 .done) .stop)) .stop)) .stop))) (.alt 2 (.fork (.alt 1 (.fork (.alt 3 (.fork (.alt 4 (.quiet 5 0 .done) .stop)) .stop)) .stop)) .stop))) (.alt 2 (.fork (.alt 0 (.fork (.alt 1 (.fork (.alt 3 (.fork (.alt 4 (.quiet 5 0 .done) .stop)) .stop)) .stop)) .stop)) .stop))) ?_
   repeat' first | exact True.intro | refine And.intro ?_ ?_ | (intro _ _) | refine callG (impl_copyHost_f h).k ?_
   all_goals exact (by rw [mc_no (by first | (left; assumption) | (right; omega))]; rfl)
  ·have hmv : moves h v = true := by assumption
   have hpr : 0 ≤ p ∧ p < 8 := by omega
   have hmy := moves_yes hmv
   obtain ⟨y, hy⟩ : ∃ y, v.Have[p.toNat]? = some y := ⟨_, List.getElem?_eq_getElem (by omega)⟩
   refine regU [9] [(0, 0), (1, 0), (2, 0), (3, 0), (4, 0), (5, 0), (6, 0), (7, 1), (8, 0), (9, 1)] ?_
   refine callL (impl_PageOf_f h v.M p).k ?_
   first | refine ixm (by assumption) ?_ | refine bnd ?_ | refine bndi ?_ | refine ixkq (fun y34 hy34 qy34 ly34 => ?_) | refine ixiq (fun y34 hy34 qy34 ly34 => ?_)
   first | refine ixs ?_ | refine ixo (by assumption) ?_ | refine ixoq (fun z1 hz1 qz1 lz1 => ?_) | skip
   refine callG (impl_Guard_f h v.M p).k ?_
   refine regT [0, 1, 2, 3] [] [] (.fork (.alt 0 (.fork (.alt 1 (.fork (.alt 2 (.fork (.alt 3 (.quiet 4 0 .done) .stop)) .stop)) (.alt 2 (.fork (.alt 1 (.fork (.alt 3 (.quiet 4 0 .done) .stop)) .stop)) .stop))) (.alt 1 (.fork (.alt 0 (.fork (.alt 2 (.fork (.alt 3 (.quiet 4 0 .done) .stop)) .stop)) .stop)) .stop))) ?_
   repeat' first | exact True.intro | refine And.intro ?_ ?_ | (intro _ _)
   all_goals exact (by rw [mc_yes hmv hpr]; show RG [.a (rHost ((guard h v.M p).getD h)), .a [.v (.int .i64 v.M), .sl 1 ((v.Have.set p.toNat (pageOf h v.M p)).map dIntS)], .c (.v (.bool true))] _; rw [List.map_set]; rfl)
theorem spec_MoveCopy_f (h : VHost) (v : VMove) (p : Int) [Q (SmHost h)] [Q (SmMove v)] : Fun Tryz.prog 39 [A (rHost h), A (rMove v), I p] (RG [.a (rHost (((moveCopy h v p).map Prod.fst).getD h)), .a (rMove (((moveCopy h v p).map Prod.snd).getD v)), .c (.v (.bool (moveCopy h v p).isSome))]) := by
 refine Fun.w 46 Tryz.func39 fun w g0 hM => ?_
 have hl0 := hM.1.2.1.map
 have hl1 := hM.2.1.2.1.map
 refine callG (spec_l34Move_f v).k ?_
 refine callG (spec_l21Copy_f h).k ?_
 refine callP (spec_l22Is_f h v.M p).k ?_
 refine cnd (fun hg6 => ?_) (fun hg6 => ?_)
 ·refine regT [0, 1, 2, 3] [] [] (.fork (.alt 0 (.fork (.alt 1 (.fork (.alt 2 (.fork (.alt 3 (.quiet 4 0 .done) .stop)) .stop)) (.alt 2 (.fork (.alt 1 (.fork (.alt 3 (.quiet 4 0 .done) .stop)) .stop)) .stop))) (.alt 1 (.fork (.alt 0 (.fork (.alt 2 (.fork (.alt 3 (.quiet 4 0 .done) .stop)) .stop)) .stop)) .stop))) ?_
  repeat' first | exact True.intro | refine And.intro ?_ ?_ | (intro _ _)
  all_goals exact (by rw [mc_no (has_no (by first | (left; assumption) | (right; omega)))]; rfl)
 ·refine len ?_
  refine cnd (fun hb => ?_) (fun hb => ?_)
  ·refine regT [0, 1, 2, 3] [] [] (.fork (.alt 0 (.fork (.alt 1 (.fork (.alt 2 (.fork (.alt 3 (.quiet 4 0 .done) .stop)) .stop)) (.alt 2 (.fork (.alt 1 (.fork (.alt 3 (.quiet 4 0 .done) .stop)) .stop)) .stop))) (.alt 1 (.fork (.alt 0 (.fork (.alt 2 (.fork (.alt 3 (.quiet 4 0 .done) .stop)) .stop)) .stop)) .stop))) ?_
   repeat' first | exact True.intro | refine And.intro ?_ ?_ | (intro _ _)
   all_goals exact (by rw [mc_no (has_no (by first | (left; assumption) | (right; omega)))]; rfl)
  ·have hmp := moves_has (h := h) (v := v) (p := p) (by assumption) (by omega)
   have hmv := hmp.1
   have hpr := hmp.2
   have hmy := moves_yes hmv
   obtain ⟨y, hy⟩ : ∃ y, v.Have[p.toNat]? = some y := ⟨_, List.getElem?_eq_getElem (by omega)⟩
   refine regU [9] [(0, 0), (1, 0), (2, 0), (3, 0), (4, 0), (5, 0), (6, 0), (7, 1), (8, 0), (9, 1)] ?_
   refine callL (spec_PageOf_f h v.M p).k ?_
   first | refine ixm (by assumption) ?_ | refine bnd ?_ | refine bndi ?_ | refine ixkq (fun y35 hy35 qy35 ly35 => ?_) | refine ixiq (fun y35 hy35 qy35 ly35 => ?_)
   first | refine ixs ?_ | refine ixo (by assumption) ?_ | refine ixoq (fun z1 hz1 qz1 lz1 => ?_) | skip
   refine callG (spec_Guard_f h v.M p).k ?_
   refine regT [0, 1, 2, 3] [] [] (.fork (.alt 0 (.fork (.alt 1 (.fork (.alt 2 (.fork (.alt 3 (.quiet 4 0 .done) .stop)) .stop)) (.alt 2 (.fork (.alt 1 (.fork (.alt 3 (.quiet 4 0 .done) .stop)) .stop)) .stop))) (.alt 1 (.fork (.alt 0 (.fork (.alt 2 (.fork (.alt 3 (.quiet 4 0 .done) .stop)) .stop)) .stop)) .stop))) ?_
   repeat' first | exact True.intro | refine And.intro ?_ ?_ | (intro _ _)
   all_goals exact (by rw [mc_yes hmv hpr]; show RG [.a (rHost ((guard h v.M p).getD h)), .a [.v (.int .i64 v.M), .sl 1 ((v.Have.set p.toNat (pageOf h v.M p)).map dIntS)], .c (.v (.bool true))] _; rw [List.map_set]; rfl)
end Go.Proofs.YteelmdpahpggkaaGreat.T

