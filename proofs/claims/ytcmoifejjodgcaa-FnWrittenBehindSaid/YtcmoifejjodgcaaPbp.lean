
import Derived.Test.YtcmoifejjodgcaaPlp
import Derived.Test.YtcmoifejjodgcaaNpp
import Derived.Test.YtcmoifejjodgcaaRpp
namespace Go.Proofs.Ytcmoifejjodgcaa.T
open Go
set_option linter.unusedVariables false
set_option linter.unusedSimpArgs false
set_option maxRecDepth 100000
set_option maxHeartbeats 8000000
theorem impl_fetch_r {row : List D} {mi pi : Int} (h : VHost) (m : Nat) (x : VMon) (p : Nat) (z : VSlot) (hmi : mi = m) (hpi : pi = p) (hr : row = rHost h) (hs : Shp h) (ha : Alone h) (hx : h.Mons[m]? = some x) (hz : x.Outer[p]? = some z) (h1 : z.Page = -1) :
  Fun2 Try.prog 49 ⟨true, row⟩ [.one (.ptr ⟨1000001, [], 0⟩), I mi, I pi] (RP2 (rHost (fetchIn h m p)) (.tup [])) := by
 subst hr hmi hpi
 exact impl_fetch_f h m x p z hs ha hx hz h1
theorem pageIn_no {h : VHost} {m p : Int} (hp : hasPage h m p = false) : pageIn h m p = none := by unfold pageIn; rw [hp]; rfl
theorem pageIn_off {h : VHost} {m p : Int} {x : VMon} {z : VSlot} (hx : h.Mons[m.toNat]? = some x) (hz : x.Outer[p.toNat]? = some z) (h1 : ¬ z.Page = -1) : pageIn h m p = none := by
 unfold pageIn
 rw [slot_is hx hz, decide_eq_false h1, Bool.and_false]
 rfl
theorem pageIn_yes {h : VHost} {m p : Int} {x : VMon} {z : VSlot} (hp : hasPage h m p = true) (hx : h.Mons[m.toNat]? = some x) (hz : x.Outer[p.toNat]? = some z) (h1 : z.Page = -1) : pageIn h m p = some (fetchIn h m.toNat p.toNat) := by
 unfold pageIn
 rw [slot_is hx hz, decide_eq_true h1, hp]
 rfl
theorem fetch_at {h : VHost} {m p : Nat} {x : VMon} {z : VSlot} (hs : Shp h) (ha : Alone h) (hx : h.Mons[m]? = some x) (hz : x.Outer[p]? = some z) (h1 : z.Page = -1) : ∃ y t, (fetchIn h m p).Mons[m]? = some y ∧ y.Outer[p]? = some ⟨t, 3⟩ ∧ 0 ≤ t := by
 obtain ⟨x1, t, l, hr, hyo⟩ := room_at hs ha hx hz h1
 have h8 := (hr.hs.mon hr.hx).2.1
 have hp : p < 8 := by have := (List.getElem?_eq_some_iff.1 hr.hz).1; have := (hr.hs.mon hr.hx).1; omega
 obtain ⟨y, hy⟩ : ∃ y, x1.Out[p]? = some y := ⟨_, List.getElem?_eq_getElem (by omega)⟩
 unfold fetchIn
 rw [take_in hr hy]
 exact ⟨_, t, set_at (set_at hr.hx), set_at hr.hz, hr.ht.1⟩
theorem two_on {r : Int} (h : 0 ≤ r ∧ r ≤ 3) : enough r 2 = true ↔ ¬ iand r 2 = 0 := by
 have : r = 0 ∨ r = 1 ∨ r = 2 ∨ r = 3 := by omega
 rcases this with rfl | rfl | rfl | rfl <;> decide
def soilM (x : VMon) (p : Nat) : VMon := { x with Dirty := x.Dirty.set p true }
def soilH (h : VHost) (m : Nat) (x : VMon) (p : Nat) : VHost := { h with Mons := h.Mons.set m (soilM x p) }
def wideM (x : VMon) (p : Nat) (z : VSlot) : VMon := { x with Outer := x.Outer.set p ⟨z.Page, 3⟩, Dirty := x.Dirty.set p true }
def wideH (h : VHost) (m : Nat) (x : VMon) (p : Nat) (z : VSlot) : VHost := { h with Mons := h.Mons.set m (wideM x p z) }
abbrev soilRow (h : VHost) (m : Nat) (x : VMon) (p : Nat) : List D := [.sl 1 (h.Memory.map dIntS), .sl 9 ((h.Mons.map dMon).set m (.st [.sl 2 (x.Outer.map dSlot), .sl 1 (x.Out.map dIntS), .sl 1 ((x.Dirty.map dBool).set p (.v (.bool true))), .sl 15 (x.Guests.map dGuest), .sl 1 (x.Outs.map dInt), .v (.int .i64 x.Pending), .v (.int .i64 x.Traps), .sl 2 (x.Tables.map dKept), .v (.int .i64 x.Own)])), .sl 4 (h.Buffer.map dEntry), .sl 4 (h.IoBuffer.map dEntry)]
abbrev wideRow (h : VHost) (m : Nat) (x : VMon) (p : Nat) (z : VSlot) : List D := [.sl 1 (h.Memory.map dIntS), .sl 9 (((h.Mons.map dMon).set m (.st [.sl 2 (x.Outer.map dSlot), .sl 1 (x.Out.map dIntS), .sl 1 ((x.Dirty.map dBool).set p (.v (.bool true))), .sl 15 (x.Guests.map dGuest), .sl 1 (x.Outs.map dInt), .v (.int .i64 x.Pending), .v (.int .i64 x.Traps), .sl 2 (x.Tables.map dKept), .v (.int .i64 x.Own)])).set m (.st [.sl 2 ((x.Outer.map dSlot).set p (.st [.v (.int .i64 z.Page), .v (.int .i64 3)])), .sl 1 (x.Out.map dIntS), .sl 1 ((x.Dirty.map dBool).set p (.v (.bool true))), .sl 15 (x.Guests.map dGuest), .sl 1 (x.Outs.map dInt), .v (.int .i64 x.Pending), .v (.int .i64 x.Traps), .sl 2 (x.Tables.map dKept), .v (.int .i64 x.Own)])), .sl 4 (h.Buffer.map dEntry), .sl 4 (h.IoBuffer.map dEntry)]
theorem soilRow_eq (h : VHost) (m : Nat) (x : VMon) (p : Nat) : soilRow h m x p = rHost (soilH h m x p) := by
 have e : dMon (soilM x p) = .st [.sl 2 (x.Outer.map dSlot), .sl 1 (x.Out.map dIntS), .sl 1 ((x.Dirty.map dBool).set p (.v (.bool true))), .sl 15 (x.Guests.map dGuest), .sl 1 (x.Outs.map dInt), .v (.int .i64 x.Pending), .v (.int .i64 x.Traps), .sl 2 (x.Tables.map dKept), .v (.int .i64 x.Own)] := by
  show D.st [_, _, .sl 1 ((x.Dirty.set p true).map dBool), _, _, _, _, _, _] = _
  rw [List.map_set]
  rfl
 unfold soilRow soilH
 show _ = [_, D.sl 9 ((h.Mons.set m (soilM x p)).map dMon), _, _]
 rw [List.map_set, e]
theorem wideRow_eq (h : VHost) (m : Nat) (x : VMon) (p : Nat) (z : VSlot) : wideRow h m x p z = rHost (wideH h m x p z) := by
 have e : dMon (wideM x p z) = .st [.sl 2 ((x.Outer.map dSlot).set p (.st [.v (.int .i64 z.Page), .v (.int .i64 3)])), .sl 1 (x.Out.map dIntS), .sl 1 ((x.Dirty.map dBool).set p (.v (.bool true))), .sl 15 (x.Guests.map dGuest), .sl 1 (x.Outs.map dInt), .v (.int .i64 x.Pending), .v (.int .i64 x.Traps), .sl 2 (x.Tables.map dKept), .v (.int .i64 x.Own)] := by
  show D.st [.sl 2 ((x.Outer.set p ⟨z.Page, 3⟩).map dSlot), _, .sl 1 ((x.Dirty.set p true).map dBool), _, _, _, _, _, _] = _
  rw [List.map_set, List.map_set]
  rfl
 unfold wideRow wideH
 rw [List.set_set]
 show _ = [_, D.sl 9 ((h.Mons.set m (wideM x p z)).map dMon), _, _]
 rw [List.map_set, e]
theorem sm_soilM {x : VMon} {p : Nat} (hx : SmMon x) : SmMon (soilM x p) := ⟨hx.1, hx.2.1, by show (x.Dirty.set _ _).length ≤ _; rw [List.length_set]; exact hx.2.2.1, hx.2.2.2⟩
theorem shm_soilM {x : VMon} {p : Nat} (hx : ShM x) : ShM (soilM x p) := ⟨hx.1, hx.2.1, by show (x.Dirty.set _ _).length = _; rw [List.length_set]; exact hx.2.2.1, hx.2.2.2⟩
theorem sm_wideM {x : VMon} {p : Nat} {z : VSlot} (hx : SmMon x) : SmMon (wideM x p z) := ⟨by show (x.Outer.set _ _).length ≤ _; rw [List.length_set]; exact hx.1, hx.2.1, by show (x.Dirty.set _ _).length ≤ _; rw [List.length_set]; exact hx.2.2.1, hx.2.2.2⟩
theorem shp_soilH {h : VHost} {m p : Nat} {x : VMon} (hh : Shp h) (hx : h.Mons[m]? = some x) : Shp (soilH h m x p) := shp_set hh (sm_soilM (hh.sm hx)) (shm_soilM (hh.mon hx))
theorem sm_wideH {h : VHost} {m p : Nat} {x : VMon} {z : VSlot} (hh : Shp h) (hx : h.Mons[m]? = some x) : SmHost (wideH h m x p z) := sm_setM hh.1 (sm_wideM (hh.sm hx))
theorem dirtT_eq {h : VHost} {m p : Nat} {x : VMon} (hx : h.Mons[m]? = some x) : setDirty h m p true = soilH h m x p := by
 unfold setDirty setMon
 rw [mon_is hx]
 rfl
theorem soil_no {h : VHost} {m p : Nat} {x : VMon} {z : VSlot} (hx : h.Mons[m]? = some x) (hz : x.Outer[p]? = some z) (h1 : ¬ iand z.Rights 2 = 0) : soil h m p = soilH h m x p := by
 unfold soil
 rw [slot_is hx hz, if_neg h1, dirtT_eq hx]
theorem soil_yes {h : VHost} {m p : Nat} {x : VMon} {z : VSlot} (hx : h.Mons[m]? = some x) (hz : x.Outer[p]? = some z) (h1 : iand z.Rights 2 = 0) : soil h m p = slotted (soilH h m x p) m (soilM x p) p z ⟨z.Page, 3⟩ := by
 unfold soil
 rw [slot_is hx hz, if_pos h1, dirtT_eq hx, slotSet_eq (h := soilH h m x p) (set_at hx) (show (soilM x p).Outer[p]? = some z from hz)]
 rfl
theorem soil_wide {h : VHost} {m p : Nat} {x : VMon} {z : VSlot} (hx : h.Mons[m]? = some x) (hz : x.Outer[p]? = some z) (h1 : iand z.Rights 2 = 0) : soil h m p = spoilt (wideH h m x p z) m (wideM x p z) p z := by
 rw [soil_yes hx hz h1]
 unfold slotted soilH spoilt wideH
 simp only [List.set_set]
 rfl
theorem shp_soil {h : VHost} {m p : Nat} {x : VMon} {z : VSlot} (hh : Shp h) (hx : h.Mons[m]? = some x) (hz : x.Outer[p]? = some z) : Shp (soil h m p) := by
 by_cases h1 : iand z.Rights 2 = 0
 ·rw [soil_yes hx hz h1]
  exact shp_slot (shp_soilH hh hx) (sm_soilM (hh.sm hx)) (shm_soilM (hh.mon hx))
 ·rw [soil_no hx hz h1]
  exact shp_soilH hh hx
def SlR (z : VSlot) : Prop := 0 ≤ z.Rights ∧ z.Rights ≤ 3 ∧ (z.Page = -1 → z.Rights = 0)
theorem shp_mend {h : VHost} {m p : Nat} {x : VMon} {z : VSlot} {need : Int} (hs : Shp h) (ha : Alone h) (hx : h.Mons[m]? = some x) (hz : x.Outer[p]? = some z) : Shp (mendP h m p need) := by
 unfold mendP
 rw [slot_is hx hz]
 by_cases h1 : z.Page = -1
 ·have h2 := shp_fetch hs ha hx hz h1
  obtain ⟨y, t, h3, h4, _⟩ := fetch_at hs ha hx hz h1
  simp only [if_pos h1]
  split
  ·exact h2
  ·exact shp_soil h2 h3 h4
 ·simp only [if_neg h1]
  split
  ·exact hs
  ·exact shp_soil hs hx hz
theorem impl_mend_f (h : VHost) (m : Nat) (x : VMon) (p : Nat) (z : VSlot) (need : Int) (hn : 0 ≤ need ∧ need ≤ 3) (hs : Shp h) (ha : Alone h) (hx : h.Mons[m]? = some x) (hz : x.Outer[p]? = some z) (hzr : SlR z) : Fun2 Try.prog 26 (⟨true, rHost h⟩) [.one (.ptr ⟨1000001, [], 0⟩), I m, I p, I need] (RP2 (rHost (mendP h m p need)) (.tup [])) := by
 refine Fun2.w 65 Try.func26 fun w g0 _ => ?_
 have qh : Q (SmHost h) := hs.q
 have qx0 : Q (SmMon x) := ⟨hs.sm hx⟩
 have hmx := hs.mon hx
 have hmx1 := hmx.1
 have hml := (List.getElem?_eq_some_iff.1 hx).1
 have hpl := (List.getElem?_eq_some_iff.1 hz).1
 have hml2 : m < (h.Mons.map dMon).length := by rw [List.length_map]; exact hml
 have hpl2 : p < (x.Outer.map dSlot).length := by rw [List.length_map]; exact hpl
 have hsn : z.Page = -1 ↔ z.Page = -1 ∧ z.Rights = 0 := ⟨fun e => ⟨e, hzr.2.2 e⟩, fun e => e.1⟩
 have hns1 : noSlot.Page = -1 := rfl
 have hns2 : noSlot.Rights = 0 := rfl
 have htn := two_on hn
 have hzp1 := hzr.1
 have hzp2 := hzr.2.1
 first | refine ixm (by assumption) ?_ | refine bnd ?_ | refine bndi ?_ | refine ixkq (fun y15 hy15 qy15 ly15 => ?_) | refine ixiq (fun y15 hy15 qy15 ly15 => ?_)
 first | refine ixs ?_ | refine ixo (by assumption) ?_ | refine ixoq (fun z1 hz1 qz1 lz1 => ?_) | skip
 first | refine ixs ?_ | refine ixo (by assumption) ?_ | refine ixoq (fun z2 hz2 qz2 lz2 => ?_) | skip
 first | refine ixm (by assumption) ?_ | refine bnd ?_ | refine bndi ?_ | refine ixkq (fun y19 hy19 qy19 ly19 => ?_) | refine ixiq (fun y19 hy19 qy19 ly19 => ?_)
 first | refine ixs ?_ | refine ixo (by assumption) ?_ | refine ixoq (fun z3 hz3 qz3 lz3 => ?_) | skip
 first | refine ixs ?_ | refine ixo (by assumption) ?_ | refine ixoq (fun z4 hz4 qz4 lz4 => ?_) | skip
 refine cnd (fun hb => ?_) (fun hb => ?_)
 ·refine callX 1000001 (impl_fetch_r (mi := m) (pi := p) h m x p z rfl rfl rfl hs ha hx hz (by omega)) ?_
  obtain ⟨x1, z1, hkx, hkz, hkr, hks⟩ : ∃ x1 z1, (fetchIn h m p).Mons[m]? = some x1 ∧ x1.Outer[p]? = some z1 ∧ (0 ≤ z1.Rights ∧ z1.Rights ≤ 3) ∧ Shp (fetchIn h m p) := (by obtain ⟨y, t, h2, h3, h4⟩ := fetch_at hs ha hx hz (by omega); exact ⟨y, _, h2, h3, ⟨by show (0 : Int) ≤ 3; decide, by show (3 : Int) ≤ 3; decide⟩, shp_fetch hs ha hx hz (by omega)⟩)
  have hme : mendP h m p need = if iand need 2 = 0 then fetchIn h m p else soil (fetchIn h m p) m p := (by unfold mendP; rw [slot_is hx hz]; simp only [if_pos (show z.Page = -1 by omega)])
  have qk : Q (SmHost (fetchIn h m p)) := hks.q
  have hmk := hks.mon hkx
  have hmk1 := hmk.1
  have hmk3 := hmk.2.2.1
  have qx : Q (SmMon x1) := ⟨hks.sm hkx⟩
  have hkl := (List.getElem?_eq_some_iff.1 hkx).1
  have hkl2 : m < ((fetchIn h m p).Mons.map dMon).length := by rw [List.length_map]; exact hkl
  have hkp := (List.getElem?_eq_some_iff.1 hkz).1
  have hkp2 : p < (x1.Outer.map dSlot).length := by rw [List.length_map]; exact hkp
  obtain ⟨bd, hbd⟩ : ∃ b, x1.Dirty[p]? = some b := ⟨_, List.getElem?_eq_getElem (by omega)⟩
  have hdl := (List.getElem?_eq_some_iff.1 hbd).1
  have hdl2 : p < (x1.Dirty.map dBool).length := by rw [List.length_map]; exact hdl
  have htz := two_on hkr
  refine callP (impl_Enough_f need 2).k ?_
  refine cnd (fun hb2 => ?_) (fun hb2 => ?_)
  ·exact (by first | (rw [hme, if_pos (by simp_all)]; exact ⟨rfl, rfl⟩) | (rw [hme, if_neg (by simp_all), soil_no hkx hkz (by simp_all), ← soilRow_eq]; exact ⟨rfl, rfl⟩) | (rw [hme, if_neg (by simp_all), soil_wide hkx hkz (by simp_all)]; exact ⟨rfl, rfl⟩))
  ·first | refine ixm (by assumption) ?_ | refine bnd ?_ | refine bndi ?_ | refine ixkq (fun y35 hy35 qy35 ly35 => ?_) | refine ixiq (fun y35 hy35 qy35 ly35 => ?_)
   first | refine ixs ?_ | refine ixo (by assumption) ?_ | refine ixoq (fun z5 hz5 qz5 lz5 => ?_) | skip
   first | refine ixs ?_ | refine ixo (by assumption) ?_ | refine ixoq (fun z6 hz6 qz6 lz6 => ?_) | skip
   first | refine ixm (by assumption) ?_ | refine bnd ?_ | refine bndi ?_ | refine ixkq (fun y41 hy41 qy41 ly41 => ?_) | refine ixiq (fun y41 hy41 qy41 ly41 => ?_)
   first | refine ixs ?_ | refine ixo (by assumption) ?_ | refine ixoq (fun z7 hz7 qz7 lz7 => ?_) | skip
   first | refine ixs ?_ | refine ixo (by assumption) ?_ | refine ixoq (fun z8 hz8 qz8 lz8 => ?_) | skip
   first | refine ixs ?_ | refine ixo (by assumption) ?_ | refine ixoq (fun z9 hz9 qz9 lz9 => ?_) | skip
   first | refine ixs ?_ | refine ixo (by assumption) ?_ | refine ixoq (fun z10 hz10 qz10 lz10 => ?_) | skip
   first | refine ixm (by assumption) ?_ | refine bnd ?_ | refine bndi ?_ | refine ixkq (fun y47 hy47 qy47 ly47 => ?_) | refine ixiq (fun y47 hy47 qy47 ly47 => ?_)
   first | refine ixs ?_ | refine ixo (by assumption) ?_ | refine ixoq (fun z11 hz11 qz11 lz11 => ?_) | skip
   first | refine ixs ?_ | refine ixo (by assumption) ?_ | refine ixoq (fun z12 hz12 qz12 lz12 => ?_) | skip
   refine callP (impl_Enough_f z1.Rights 2).k ?_
   refine cnd (fun hb3 => ?_) (fun hb3 => ?_)
   ·first | refine ixs ?_ | refine ixo (by assumption) ?_ | refine ixoq (fun z13 hz13 qz13 lz13 => ?_) | skip
    first | refine ixs ?_ | refine ixo (by assumption) ?_ | refine ixoq (fun z14 hz14 qz14 lz14 => ?_) | skip
    first | refine ixm (by assumption) ?_ | refine bnd ?_ | refine bndi ?_ | refine ixkq (fun y58 hy58 qy58 ly58 => ?_) | refine ixiq (fun y58 hy58 qy58 ly58 => ?_)
    first | refine ixs ?_ | refine ixo (by assumption) ?_ | refine ixoq (fun z15 hz15 qz15 lz15 => ?_) | skip
    first | refine ixs ?_ | refine ixo (by assumption) ?_ | refine ixoq (fun z16 hz16 qz16 lz16 => ?_) | skip
    refine callX 1000001 (impl_invalidate_r (row := wideRow (fetchIn h m p) m x1 p z1) (wideH (fetchIn h m p) m x1 p z1) m (wideM x1 p z1) p (wideRow_eq (fetchIn h m p) m x1 p z1) (set_at hkx) hmk.2.2.2 (sm_wideH hks hkx)) ?_
    exact (by first | (rw [hme, if_pos (by simp_all)]; exact ⟨rfl, rfl⟩) | (rw [hme, if_neg (by simp_all), soil_no hkx hkz (by simp_all), ← soilRow_eq]; exact ⟨rfl, rfl⟩) | (rw [hme, if_neg (by simp_all), soil_wide hkx hkz (by simp_all)]; exact ⟨rfl, rfl⟩))
   ·exact (by first | (rw [hme, if_pos (by simp_all)]; exact ⟨rfl, rfl⟩) | (rw [hme, if_neg (by simp_all), soil_no hkx hkz (by simp_all), ← soilRow_eq]; exact ⟨rfl, rfl⟩) | (rw [hme, if_neg (by simp_all), soil_wide hkx hkz (by simp_all)]; exact ⟨rfl, rfl⟩))
 ·obtain ⟨x1, z1, hkx, hkz, hkr, hks⟩ : ∃ x1 z1, h.Mons[m]? = some x1 ∧ x1.Outer[p]? = some z1 ∧ (0 ≤ z1.Rights ∧ z1.Rights ≤ 3) ∧ Shp h := ⟨x, z, hx, hz, ⟨hzp1, hzp2⟩, hs⟩
  have hme : mendP h m p need = if iand need 2 = 0 then h else soil h m p := (by unfold mendP; rw [slot_is hx hz]; simp only [if_neg (show ¬ z.Page = -1 by omega)])
  have qk : Q (SmHost h) := hks.q
  have hmk := hks.mon hkx
  have hmk1 := hmk.1
  have hmk3 := hmk.2.2.1
  have qx : Q (SmMon x1) := ⟨hks.sm hkx⟩
  have hkl := (List.getElem?_eq_some_iff.1 hkx).1
  have hkl2 : m < (h.Mons.map dMon).length := by rw [List.length_map]; exact hkl
  have hkp := (List.getElem?_eq_some_iff.1 hkz).1
  have hkp2 : p < (x1.Outer.map dSlot).length := by rw [List.length_map]; exact hkp
  obtain ⟨bd, hbd⟩ : ∃ b, x1.Dirty[p]? = some b := ⟨_, List.getElem?_eq_getElem (by omega)⟩
  have hdl := (List.getElem?_eq_some_iff.1 hbd).1
  have hdl2 : p < (x1.Dirty.map dBool).length := by rw [List.length_map]; exact hdl
  have htz := two_on hkr
  refine callP (impl_Enough_f need 2).k ?_
  refine cnd (fun hb4 => ?_) (fun hb4 => ?_)
  ·exact (by first | (rw [hme, if_pos (by simp_all)]; exact ⟨rfl, rfl⟩) | (rw [hme, if_neg (by simp_all), soil_no hkx hkz (by simp_all), ← soilRow_eq]; exact ⟨rfl, rfl⟩) | (rw [hme, if_neg (by simp_all), soil_wide hkx hkz (by simp_all)]; exact ⟨rfl, rfl⟩))
  ·first | refine ixm (by assumption) ?_ | refine bnd ?_ | refine bndi ?_ | refine ixkq (fun y35 hy35 qy35 ly35 => ?_) | refine ixiq (fun y35 hy35 qy35 ly35 => ?_)
   first | refine ixs ?_ | refine ixo (by assumption) ?_ | refine ixoq (fun z17 hz17 qz17 lz17 => ?_) | skip
   first | refine ixs ?_ | refine ixo (by assumption) ?_ | refine ixoq (fun z18 hz18 qz18 lz18 => ?_) | skip
   first | refine ixm (by assumption) ?_ | refine bnd ?_ | refine bndi ?_ | refine ixkq (fun y41 hy41 qy41 ly41 => ?_) | refine ixiq (fun y41 hy41 qy41 ly41 => ?_)
   first | refine ixs ?_ | refine ixo (by assumption) ?_ | refine ixoq (fun z19 hz19 qz19 lz19 => ?_) | skip
   first | refine ixs ?_ | refine ixo (by assumption) ?_ | refine ixoq (fun z20 hz20 qz20 lz20 => ?_) | skip
   first | refine ixs ?_ | refine ixo (by assumption) ?_ | refine ixoq (fun z21 hz21 qz21 lz21 => ?_) | skip
   first | refine ixs ?_ | refine ixo (by assumption) ?_ | refine ixoq (fun z22 hz22 qz22 lz22 => ?_) | skip
   first | refine ixm (by assumption) ?_ | refine bnd ?_ | refine bndi ?_ | refine ixkq (fun y47 hy47 qy47 ly47 => ?_) | refine ixiq (fun y47 hy47 qy47 ly47 => ?_)
   first | refine ixs ?_ | refine ixo (by assumption) ?_ | refine ixoq (fun z23 hz23 qz23 lz23 => ?_) | skip
   first | refine ixs ?_ | refine ixo (by assumption) ?_ | refine ixoq (fun z24 hz24 qz24 lz24 => ?_) | skip
   refine callP (impl_Enough_f z1.Rights 2).k ?_
   refine cnd (fun hb5 => ?_) (fun hb5 => ?_)
   ·first | refine ixs ?_ | refine ixo (by assumption) ?_ | refine ixoq (fun z25 hz25 qz25 lz25 => ?_) | skip
    first | refine ixs ?_ | refine ixo (by assumption) ?_ | refine ixoq (fun z26 hz26 qz26 lz26 => ?_) | skip
    first | refine ixm (by assumption) ?_ | refine bnd ?_ | refine bndi ?_ | refine ixkq (fun y58 hy58 qy58 ly58 => ?_) | refine ixiq (fun y58 hy58 qy58 ly58 => ?_)
    first | refine ixs ?_ | refine ixo (by assumption) ?_ | refine ixoq (fun z27 hz27 qz27 lz27 => ?_) | skip
    first | refine ixs ?_ | refine ixo (by assumption) ?_ | refine ixoq (fun z28 hz28 qz28 lz28 => ?_) | skip
    refine callX 1000001 (impl_invalidate_r (row := wideRow h m x1 p z1) (wideH h m x1 p z1) m (wideM x1 p z1) p (wideRow_eq h m x1 p z1) (set_at hkx) hmk.2.2.2 (sm_wideH hks hkx)) ?_
    exact (by first | (rw [hme, if_pos (by simp_all)]; exact ⟨rfl, rfl⟩) | (rw [hme, if_neg (by simp_all), soil_no hkx hkz (by simp_all), ← soilRow_eq]; exact ⟨rfl, rfl⟩) | (rw [hme, if_neg (by simp_all), soil_wide hkx hkz (by simp_all)]; exact ⟨rfl, rfl⟩))
   ·exact (by first | (rw [hme, if_pos (by simp_all)]; exact ⟨rfl, rfl⟩) | (rw [hme, if_neg (by simp_all), soil_no hkx hkz (by simp_all), ← soilRow_eq]; exact ⟨rfl, rfl⟩) | (rw [hme, if_neg (by simp_all), soil_wide hkx hkz (by simp_all)]; exact ⟨rfl, rfl⟩))
end Go.Proofs.Ytcmoifejjodgcaa.T

namespace Go.Proofs.Ytcmoifejjodgcaa.T
open Go
set_option linter.unusedVariables false
set_option linter.unusedSimpArgs false
set_option maxRecDepth 100000
set_option maxHeartbeats 8000000
abbrev guestOr (b : VBare) (g : Int) : VGuest := (at? b.Guests g).getD noGuest
theorem at_mem {α : Type} {xs : List α} {i : Int} {r : α} (h : at? xs i = some r) : r ∈ xs := by
 unfold at? at h
 split at h
 ·exact List.mem_of_getElem? h
 ·cases h
theorem sm_noGuest : SmGuest noGuest := ⟨by simp [SmInsS], by simp [SmSlotS], by simp [SmSlotS], by simp [SmIntS]⟩
theorem sm_guestOr {b : VBare} {g : Int} (hb : SmBare b) : SmGuest (guestOr b g) := by
 unfold guestOr
 cases h1 : at? b.Guests g with
 | none => exact sm_noGuest
 | some x =>
  unfold at? at h1
  split at h1
  ·exact hb.2.1.2 x (List.mem_of_getElem? h1)
  ·cases h1
instance (b : VBare) (g : Int) [hb : Q (SmBare b)] : Q (SmGuest (guestOr b g)) := ⟨sm_guestOr hb.h⟩
theorem sm_with {b : VBare} {g : Int} {x : VGuest} (hb : SmBare b) (hx : SmGuest x) : SmBare (withGuest b g x) := by
 refine ⟨hb.1, ⟨?_, fun y hy => ?_⟩, hb.2.2⟩
 ·show (put b.Guests g x).length ≤ _
  rw [put_len]; exact hb.2.1.1
 ·have hy : y ∈ put b.Guests g x := hy
  unfold put at hy
  split at hy
  ·rcases List.mem_or_eq_of_mem_set hy with hy | rfl
   ·exact hb.2.1.2 y hy
   ·exact hx
  ·exact hb.2.1.2 y hy
instance (b : VBare) (g : Int) (x : VGuest) [hb : Q (SmBare b)] [hx : Q (SmGuest x)] : Q (SmBare (withGuest b g x)) := ⟨sm_with hb.h hx.h⟩
theorem sm_putOut {b : VBare} {n : Int} (hb : SmBare b) : SmBare (putOut b n) := by
 unfold putOut
 split
 ·refine ⟨hb.1, hb.2.1, ?_⟩
  show (b.Outs ++ [n]).length ≤ _
  rw [List.length_append, List.length_singleton]; omega
 ·exact hb
instance (b : VBare) (n : Int) [hb : Q (SmBare b)] : Q (SmBare (putOut b n)) := ⟨sm_putOut hb.h⟩
end Go.Proofs.Ytcmoifejjodgcaa.T

namespace Go.Proofs.Ytcmoifejjodgcaa.T
open Go
set_option linter.unusedVariables false
set_option linter.unusedSimpArgs false
set_option maxRecDepth 100000
set_option maxHeartbeats 8000000
instance (x : VGuest) (e : VExit) (a : Int) [h : Q (a ≤ x.Pc)] : Q (a ≤ (stopped x e).Pc) := h
def fSet (page : Int) (s : VSlot) (x : VGuest) : VGuest := { x with Written := put x.Written page s }
def fFlush (page : Int) (x : VGuest) : VGuest := { x with Live := put x.Live page (slotAt x.Written page) }
theorem sm_fSet {page : Int} {s : VSlot} {x : VGuest} (h : SmGuest x) : SmGuest (fSet page s x) := ⟨h.1, by show (put x.Written page s).length ≤ _; rw [put_len]; exact h.2.1, h.2.2.1, h.2.2.2⟩
theorem sm_fFlush {page : Int} {x : VGuest} (h : SmGuest x) : SmGuest (fFlush page x) := ⟨h.1, h.2.1, by show (put x.Live page _).length ≤ _; rw [put_len]; exact h.2.2.1, h.2.2.2⟩
theorem guestOr_eq {b : VBare} {g : Int} {x : VGuest} (h : at? b.Guests g = some x) : guestOr b g = x := by unfold guestOr; rw [h]; rfl
theorem poke_no {b : VBare} {p c v : Int} (h : bareOk b = false ∨ ¬ (0 ≤ p ∧ p < 8) ∨ ¬ (0 ≤ c ∧ c < 4) ∨ ¬ (0 ≤ v ∧ v ≤ 99)) : barePoke b p c v = none := by
 unfold barePoke
 refine if_neg fun e => ?_
 simp only [Bool.and_eq_true, inR, decide_eq_true_eq] at e
 rcases h with h | h | h | h
 ·rw [h] at e; exact absurd e.1.1.1 (by decide)
 all_goals omega
theorem poke_yes {b : VBare} {p c v : Int} (h : bareOk b = true) (h1 : 0 ≤ p ∧ p < 8) (h2 : 0 ≤ c ∧ c < 4) (h3 : 0 ≤ v ∧ v ≤ 99) : barePoke b p c v = some { b with Memory := withCell b.Memory p c v } := by
 unfold barePoke
 refine if_pos ?_
 simp only [Bool.and_eq_true, inR, decide_eq_true_eq]
 exact ⟨⟨⟨h, by omega⟩, by omega⟩, by omega⟩
theorem impl_BarePoke_f (b : VBare) (p : Int) (c : Int) (v : Int) [Q (SmBare b)] : Fun Try.prog 25 [A (rBare b), I p, I c, I v] (RG [.a (rBare ((barePoke b p c v).getD b)), .c (.v (.bool (barePoke b p c v).isSome))]) := by
 refine Fun.w 40 Try.func25 fun w g0 _ => ?_
 refine callG (impl_copyBare_f b).k ?_
 refine callP (impl_BareOk_f _).k ?_
 refine cnd (fun hg3 => ?_) (fun hg3 => ?_)
 ·exact (by first | (rw [poke_no (by first | (left; assumption) | (right; left; omega) | (right; right; left; omega) | (right; right; right; omega))]; rfl) | (rw [poke_yes (by assumption) (by omega) (by omega) (by omega)]; rfl))
 ·refine callP (impl_has_f _ _).k ?_
  refine cnd (fun hg8 => ?_) (fun hg8 => ?_)
  ·exact (by first | (rw [poke_no (by first | (left; assumption) | (right; left; omega) | (right; right; left; omega) | (right; right; right; omega))]; rfl) | (rw [poke_yes (by assumption) (by omega) (by omega) (by omega)]; rfl))
  ·refine callP (impl_has_f _ _).k ?_
   refine cnd (fun hg13 => ?_) (fun hg13 => ?_)
   ·exact (by first | (rw [poke_no (by first | (left; assumption) | (right; left; omega) | (right; right; left; omega) | (right; right; right; omega))]; rfl) | (rw [poke_yes (by assumption) (by omega) (by omega) (by omega)]; rfl))
   ·refine callP (impl_within_f _ _ _).k ?_
    refine cnd (fun hb => ?_) (fun hb => ?_)
    ·exact (by first | (rw [poke_no (by first | (left; assumption) | (right; left; omega) | (right; right; left; omega) | (right; right; right; omega))]; rfl) | (rw [poke_yes (by assumption) (by omega) (by omega) (by omega)]; rfl))
    ·refine callL (impl_WithCell_f b.Memory p c v).k ?_
     exact (by first | (rw [poke_no (by first | (left; assumption) | (right; left; omega) | (right; right; left; omega) | (right; right; right; omega))]; rfl) | (rw [poke_yes (by assumption) (by omega) (by omega) (by omega)]; rfl))
end Go.Proofs.Ytcmoifejjodgcaa.T

