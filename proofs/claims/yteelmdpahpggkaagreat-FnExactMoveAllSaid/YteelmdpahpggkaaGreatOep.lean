
import Derived.Test.YteelmdpahpggkaaGreatOcp
namespace Go.Proofs.YteelmdpahpggkaaGreat.T
open Go
set_option linter.unusedVariables false
set_option linter.unusedSimpArgs false
set_option maxRecDepth 100000
set_option maxHeartbeats 8000000
def dirt (x : VMon) (p : Nat) : VMon := { x with Dirty := x.Dirty.set p false }
def hostDirt (h : VHost) (m : Nat) (x : VMon) (p : Nat) : VHost := { h with Mons := h.Mons.set m (dirt x p) }
def rdOnly (x : VMon) (p : Nat) (z : VSlot) : VMon := { x with Outer := x.Outer.set p ⟨z.Page, 1⟩ }
def hostRd (h : VHost) (m : Nat) (x : VMon) (p : Nat) (z : VSlot) : VHost := { h with Mons := h.Mons.set m (rdOnly x p z) }
theorem dirt_dm (x : VMon) (p : Nat) : dMon (dirt x p) = .st [.sl 2 (x.Outer.map dSlot), .sl 1 (x.Out.map dIntS), .sl 1 ((x.Dirty.map dBool).set p (.v (.bool false))), .sl 15 (x.Guests.map dGuest), .sl 1 (x.Outs.map dInt), .v (.int .i64 x.Pending), .v (.int .i64 x.Traps), .sl 2 (x.Tables.map dKept), .v (.int .i64 x.Own)] := by
 show D.st [_, _, .sl 1 ((x.Dirty.set p false).map dBool), _, _, _, _, _, _] = _
 rw [List.map_set]
 rfl
theorem rd_dm (x : VMon) (p : Nat) (z : VSlot) : dMon (rdOnly x p z) = .st [.sl 2 ((x.Outer.map dSlot).set p (.st [.v (.int .i64 z.Page), .v (.int .i64 1)])), .sl 1 (x.Out.map dIntS), .sl 1 (x.Dirty.map dBool), .sl 15 (x.Guests.map dGuest), .sl 1 (x.Outs.map dInt), .v (.int .i64 x.Pending), .v (.int .i64 x.Traps), .sl 2 (x.Tables.map dKept), .v (.int .i64 x.Own)] := by
 show D.st [.sl 2 ((x.Outer.set p ⟨z.Page, 1⟩).map dSlot), _, _, _, _, _, _, _, _] = _
 rw [List.map_set]
 rfl
abbrev dirtRow (h : VHost) (m : Nat) (x : VMon) (p : Nat) : List D := [.sl 1 (h.Memory.map dIntS), .sl 9 ((h.Mons.map dMon).set m (.st [.sl 2 (x.Outer.map dSlot), .sl 1 (x.Out.map dIntS), .sl 1 ((x.Dirty.map dBool).set p (.v (.bool false))), .sl 15 (x.Guests.map dGuest), .sl 1 (x.Outs.map dInt), .v (.int .i64 x.Pending), .v (.int .i64 x.Traps), .sl 2 (x.Tables.map dKept), .v (.int .i64 x.Own)])), .sl 4 (h.Buffer.map dEntry), .sl 4 (h.IoBuffer.map dEntry)]
theorem dirtRow_eq (h : VHost) (m : Nat) (x : VMon) (p : Nat) : dirtRow h m x p = rHost (hostDirt h m x p) := by
 unfold dirtRow hostDirt
 rw [← dirt_dm, ← List.map_set]
abbrev rdRow (h : VHost) (m : Nat) (x : VMon) (p : Nat) (z : VSlot) : List D := [.sl 1 (h.Memory.map dIntS), .sl 9 ((h.Mons.map dMon).set m (.st [.sl 2 ((x.Outer.map dSlot).set p (.st [.v (.int .i64 z.Page), .v (.int .i64 1)])), .sl 1 (x.Out.map dIntS), .sl 1 (x.Dirty.map dBool), .sl 15 (x.Guests.map dGuest), .sl 1 (x.Outs.map dInt), .v (.int .i64 x.Pending), .v (.int .i64 x.Traps), .sl 2 (x.Tables.map dKept), .v (.int .i64 x.Own)])), .sl 4 (h.Buffer.map dEntry), .sl 4 (h.IoBuffer.map dEntry)]
theorem rdRow_eq (h : VHost) (m : Nat) (x : VMon) (p : Nat) (z : VSlot) : rdRow h m x p z = rHost (hostRd h m x p z) := by
 unfold rdRow hostRd
 rw [← rd_dm, ← List.map_set]
theorem sm_dirt {x : VMon} {p : Nat} (hx : SmMon x) : SmMon (dirt x p) := ⟨hx.1, hx.2.1, by show (x.Dirty.set _ _).length ≤ _; rw [List.length_set]; exact hx.2.2.1, hx.2.2.2⟩
theorem sm_rd {x : VMon} {p : Nat} {z : VSlot} (hx : SmMon x) : SmMon (rdOnly x p z) := ⟨by show (x.Outer.set _ _).length ≤ _; rw [List.length_set]; exact hx.1, hx.2⟩
theorem sm_setM {h : VHost} {m : Nat} {y : VMon} (hh : SmHost h) (hy : SmMon y) : SmHost { h with Mons := h.Mons.set m y } := by
 refine ⟨hh.1, ⟨by show (h.Mons.set _ _).length ≤ _; rw [List.length_set]; exact hh.2.1.1, fun w hw => ?_⟩, hh.2.2⟩
 rcases List.mem_or_eq_of_mem_set hw with hw | rfl
 ·exact hh.2.1.2 w hw
 ·exact hy
def guarded (h : VHost) (m : Nat) (x : VMon) (p : Nat) (z : VSlot) : VHost := slotted (hostDirt h m x p) m (dirt x p) p z ⟨z.Page, 1⟩
theorem setDirty_eq {h : VHost} {m p : Nat} {x : VMon} (hx : h.Mons[m]? = some x) : setDirty h m p false = hostDirt h m x p := by
 unfold setDirty setMon
 rw [mon_is hx]
 rfl
theorem guardP_1 {h : VHost} {m p : Nat} {x : VMon} {z : VSlot} (hx : h.Mons[m]? = some x) (hz : x.Outer[p]? = some z) (h1 : z.Page = -1) : guardP h m p = hostDirt h m x p := by
 unfold guardP
 rw [slot_is hx hz, if_pos h1, setDirty_eq hx]
theorem guardP_2 {h : VHost} {m p : Nat} {x : VMon} {z : VSlot} (hx : h.Mons[m]? = some x) (hz : x.Outer[p]? = some z) (h1 : ¬ z.Page = -1) : guardP h m p = guarded h m x p z := by
 unfold guardP
 rw [slot_is hx hz, if_neg h1, setDirty_eq hx]
 have h2 : (hostDirt h m x p).Mons[m]? = some (dirt x p) := set_at hx
 exact slotSet_eq h2 hz
theorem guard_no {h : VHost} {m p : Int} (hp : hasPage h m p = false) : guard h m p = none := by unfold guard; rw [hp]; rfl
theorem guard_yes {h : VHost} {m p : Int} (hp : hasPage h m p = true) : guard h m p = some (guardP h m.toNat p.toNat) := by unfold guard; rw [hp]; rfl
def spMon (x : VMon) (p : Nat) (z : VSlot) : VMon := { rdOnly x p z with Tables := lessKept (rdOnly x p z) p }
theorem guarded_row {h : VHost} {m p : Nat} {x : VMon} {z : VSlot} : rHost (guarded h m x p z) = [.sl 1 ((spoilt (hostRd h m x p z) m (rdOnly x p z) p z).Memory.map dIntS), .sl 9 (((spoilt (hostRd h m x p z) m (rdOnly x p z) p z).Mons.map dMon).set m (.st [.sl 2 ((spMon x p z).Outer.map dSlot), .sl 1 ((spMon x p z).Out.map dIntS), .sl 1 (((spMon x p z).Dirty.map dBool).set p (.v (.bool false))), .sl 15 ((spMon x p z).Guests.map dGuest), .sl 1 ((spMon x p z).Outs.map dInt), .v (.int .i64 (spMon x p z).Pending), .v (.int .i64 (spMon x p z).Traps), .sl 2 ((spMon x p z).Tables.map dKept), .v (.int .i64 (spMon x p z).Own)])), .sl 4 ((spoilt (hostRd h m x p z) m (rdOnly x p z) p z).Buffer.map dEntry), .sl 4 ((spoilt (hostRd h m x p z) m (rdOnly x p z) p z).IoBuffer.map dEntry)] := by
 have e : dMon (dirt (spMon x p z) p) = .st [.sl 2 ((spMon x p z).Outer.map dSlot), .sl 1 ((spMon x p z).Out.map dIntS), .sl 1 (((spMon x p z).Dirty.map dBool).set p (.v (.bool false))), .sl 15 ((spMon x p z).Guests.map dGuest), .sl 1 ((spMon x p z).Outs.map dInt), .v (.int .i64 (spMon x p z).Pending), .v (.int .i64 (spMon x p z).Traps), .sl 2 ((spMon x p z).Tables.map dKept), .v (.int .i64 (spMon x p z).Own)] := dirt_dm _ _
 rw [← e, ← List.map_set]
 unfold spoilt guarded slotted hostDirt hostRd
 simp only [List.set_set]
 rfl
theorem impl_invalidate_r2 {row : List D} {mi pi : Int} {s : VSlot} (h : VHost) (m : Nat) (x : VMon) (p : Nat) (hmi : mi = m) (hpi : pi = p) (hr : row = rHost h) (hx : h.Mons[m]? = some x) (hxt : x.Tables.length = x.Guests.length) (q : SmHost h) :
  Fun2K Tryz.prog 228 row 1 [.one (.ptr ⟨1000001, [], 0⟩), I mi, I pi, A (rSlot s)] (RP2 (rHost (spoilt h m x p s)) (.tup [])) := by
 subst hmi hpi hr
 have : Q (SmHost h) := ⟨q⟩
 exact impl_invalidate_f h m x p s hx hxt
theorem spec_l22Slot_r2 {row : List D} {mi pi : Int} (h : VHost) (m : Nat) (x : VMon) (p : Nat) (z s : VSlot) (hmi : mi = m) (hpi : pi = p) (hr : row = rHost h) (hx : h.Mons[m]? = some x) (hxt : x.Tables.length = x.Guests.length) (hz : x.Outer[p]? = some z) (q : SmHost h) :
  Fun3 Tryz.prog 227 row [.one (.agg [.ref ⟨1000000, [], 0⟩, .ref ⟨1000000, [], 1⟩, .ref ⟨1000000, [], 2⟩, .ref ⟨1000000, [], 3⟩]), I mi, I pi, A (rSlot s)] (RG [.a (rHost (slotted h m x p z s))]) := by
 subst hmi hpi
 exact spec_l22Slot_r h m x p z s hr hx hxt hz q
theorem impl_copyMove_f (v : VMove) [Q (SmMove v)] : Fun Tryz.prog 146 [A (rMove v)] (RG [.a (rMove v)]) := by
 refine Fun.w 9 Tryz.func146 fun w g0 _ => ?_
 refine regU [6] [(0, 0), (1, 0), (2, 0), (3, 0), (4, 1), (5, 0), (6, 1)] ?_
 refine callL (impl_copyMem_f _).k ?_
 exact rfl
theorem spec_l34Move_f (v : VMove) [Q (SmMove v)] : Fun Tryz.prog 143 [A (rMove v)] (RG [.a (rMove v)]) := by
 refine Fun.w 8 Tryz.func143 fun w g0 _ => ?_
 refine callL (spec_l04Copy_f _).k ?_
 exact rfl
theorem impl_Guard_f (h : VHost) (m : Int) (p : Int) [Q (SmHost h)] : Fun Tryz.prog 147 [A (rHost h), I m, I p] (RG [.a (rHost ((guard h m p).getD h)), .c (.v (.bool (guard h m p).isSome))]) := by
 refine Fun.w 51 Tryz.func147 fun w g0 hM => ?_
 have hl0 := hM.1.2.1.map
 refine callG (impl_copyHost_f h).k ?_
 refine callP (impl_hasPage_f h m p).k ?_
 refine cnd (fun hb => ?_) (fun hb => ?_)
 ·exact (by rw [guard_no (by assumption)]; rfl)
 ·have hn1 : noSlot.Page = -1 := rfl
  have hn2 : noSlot.Rights = 0 := rfl
  have hpg := hasPage_on.1 (by assumption : hasPage h m p = true)
  obtain ⟨x, hx⟩ : ∃ x, h.Mons[m.toNat]? = some x := ⟨_, List.getElem?_eq_getElem (by omega)⟩
  have hmo := mon_outer (host_mon hpg.1 hx)
  obtain ⟨z, hz⟩ : ∃ z, x.Outer[p.toNat]? = some z := ⟨_, List.getElem?_eq_getElem (by omega)⟩
  obtain ⟨b, hbd⟩ : ∃ b, x.Dirty[p.toNat]? = some b := ⟨_, List.getElem?_eq_getElem (by omega)⟩
  have hml := (List.getElem?_eq_some_iff.1 hx).1
  have hpl := (List.getElem?_eq_some_iff.1 hz).1
  have hml2 : m.toNat < (h.Mons.map dMon).length := by rw [List.length_map]; exact hml
  have hpl2 : p.toNat < (x.Outer.map dSlot).length := by rw [List.length_map]; exact hpl
  have qx : Q (SmMon x) := ⟨ElS.h x (List.mem_of_getElem? hx)⟩
  have hzo : z.Page = -1 → z.Rights = 0 := fun e => by rcases hmo.2.2.2.2.2 z (List.mem_of_getElem? hz) with rfl | h; (· exact rfl); (· omega)
  first | refine ixm (by assumption) ?_ | refine bnd ?_ | refine bndi ?_ | refine ixkq (fun y22 hy22 qy22 ly22 => ?_) | refine ixiq (fun y22 hy22 qy22 ly22 => ?_)
  first | refine ixs ?_ | refine ixo (by assumption) ?_ | refine ixoq (fun z1 hz1 qz1 lz1 => ?_) | skip
  first | refine ixs ?_ | refine ixo (by assumption) ?_ | refine ixoq (fun z2 hz2 qz2 lz2 => ?_) | skip
  first | refine ixm (by assumption) ?_ | refine bnd ?_ | refine bndi ?_ | refine ixkq (fun y28 hy28 qy28 ly28 => ?_) | refine ixiq (fun y28 hy28 qy28 ly28 => ?_)
  first | refine ixs ?_ | refine ixo (by assumption) ?_ | refine ixoq (fun z3 hz3 qz3 lz3 => ?_) | skip
  first | refine ixs ?_ | refine ixo (by assumption) ?_ | refine ixoq (fun z4 hz4 qz4 lz4 => ?_) | skip
  refine cnd (fun hb2 => ?_) (fun hb2 => ?_)
  ·first | refine ixs ?_ | refine ixo (by assumption) ?_ | refine ixoq (fun z5 hz5 qz5 lz5 => ?_) | skip
   first | refine ixs ?_ | refine ixo (by assumption) ?_ | refine ixoq (fun z6 hz6 qz6 lz6 => ?_) | skip
   first | refine ixm (by assumption) ?_ | refine bnd ?_ | refine bndi ?_ | refine ixkq (fun y38 hy38 qy38 ly38 => ?_) | refine ixiq (fun y38 hy38 qy38 ly38 => ?_)
   first | refine ixs ?_ | refine ixo (by assumption) ?_ | refine ixoq (fun z7 hz7 qz7 lz7 => ?_) | skip
   first | refine ixs ?_ | refine ixo (by assumption) ?_ | refine ixoq (fun z8 hz8 qz8 lz8 => ?_) | skip
   have hsp : (spoilt (hostRd h m.toNat x p.toNat z) m.toNat (rdOnly x p.toNat z) p.toNat z).Mons[m.toNat]? = some (spMon x p.toNat z) := set_at (set_at hx)
   have hdl8 : (spMon x p.toNat z).Dirty.length = 8 := hmo.2.2.2.2.1
   have hbd2 : (spMon x p.toNat z).Dirty[p.toNat]? = some b := hbd
   have hsl := (List.getElem?_eq_some_iff.1 hsp).1
   have hdl := (List.getElem?_eq_some_iff.1 hbd).1
   refine callK 8 1 9 m.toNat 0 (impl_invalidate_r2 (mi := m) (pi := p) (row := rdRow h m.toNat x p.toNat z) (hostRd h m.toNat x p.toNat z) m.toNat (rdOnly x p.toNat z) p.toNat (by omega) (by omega) (rdRow_eq h m.toNat x p.toNat z) (set_at hx) hmo.2.2.1 (sm_setM (by assumption : Q (SmHost h)).h (sm_rd qx.h))) rfl rfl (by simp only [List.length_set, List.length_map]; omega) (by rw [List.length_map]; exact hsl) ?_
   first | refine ixs ?_ | refine ixo (by assumption) ?_ | refine ixoq (fun z9 hz9 qz9 lz9 => ?_) | skip
   first | refine ixs ?_ | refine ixo (by assumption) ?_ | refine ixoq (fun z10 hz10 qz10 lz10 => ?_) | skip
   first | refine ixm (by assumption) ?_ | refine bnd ?_ | refine bndi ?_ | refine ixkq (fun y49 hy49 qy49 ly49 => ?_) | refine ixiq (fun y49 hy49 qy49 ly49 => ?_)
   first | refine ixs ?_ | refine ixo (by assumption) ?_ | refine ixoq (fun z11 hz11 qz11 lz11 => ?_) | skip
   first | refine ixs ?_ | refine ixo (by assumption) ?_ | refine ixoq (fun z12 hz12 qz12 lz12 => ?_) | skip
   exact (by first | (rw [guard_yes (by assumption), guardP_1 hx hz (by omega), show ((some (hostDirt h m.toNat x p.toNat)).getD h) = hostDirt h m.toNat x p.toNat from rfl, ← dirtRow_eq]; rfl) | (rw [guard_yes (by assumption), guardP_2 hx hz (by omega), show ((some (guarded h m.toNat x p.toNat z)).getD h) = guarded h m.toNat x p.toNat z from rfl, guarded_row]; rfl))
  ·first | refine ixs ?_ | refine ixo (by assumption) ?_ | refine ixoq (fun z13 hz13 qz13 lz13 => ?_) | skip
   first | refine ixs ?_ | refine ixo (by assumption) ?_ | refine ixoq (fun z14 hz14 qz14 lz14 => ?_) | skip
   first | refine ixm (by assumption) ?_ | refine bnd ?_ | refine bndi ?_ | refine ixkq (fun y49 hy49 qy49 ly49 => ?_) | refine ixiq (fun y49 hy49 qy49 ly49 => ?_)
   first | refine ixs ?_ | refine ixo (by assumption) ?_ | refine ixoq (fun z15 hz15 qz15 lz15 => ?_) | skip
   first | refine ixs ?_ | refine ixo (by assumption) ?_ | refine ixoq (fun z16 hz16 qz16 lz16 => ?_) | skip
   exact (by first | (rw [guard_yes (by assumption), guardP_1 hx hz (by omega), show ((some (hostDirt h m.toNat x p.toNat)).getD h) = hostDirt h m.toNat x p.toNat from rfl, ← dirtRow_eq]; rfl) | (rw [guard_yes (by assumption), guardP_2 hx hz (by omega), show ((some (guarded h m.toNat x p.toNat z)).getD h) = guarded h m.toNat x p.toNat z from rfl, guarded_row]; rfl))
theorem spec_Guard_f (h : VHost) (m : Int) (p : Int) [Q (SmHost h)] : Fun Tryz.prog 145 [A (rHost h), I m, I p] (RG [.a (rHost ((guard h m p).getD h)), .c (.v (.bool (guard h m p).isSome))]) := by
 refine Fun.w 45 Tryz.func145 fun w g0 hM => ?_
 have hl0 := hM.1.2.1.map
 refine callG (spec_l21Copy_f h).k ?_
 refine callP (spec_l22Is_f h m p).k ?_
 refine cnd (fun hb => ?_) (fun hb => ?_)
 ·exact (by rw [guard_no (by assumption)]; rfl)
 ·have hn1 : noSlot.Page = -1 := rfl
  have hn2 : noSlot.Rights = 0 := rfl
  have hpg := hasPage_on.1 (by assumption : hasPage h m p = true)
  obtain ⟨x, hx⟩ : ∃ x, h.Mons[m.toNat]? = some x := ⟨_, List.getElem?_eq_getElem (by omega)⟩
  have hmo := mon_outer (host_mon hpg.1 hx)
  obtain ⟨z, hz⟩ : ∃ z, x.Outer[p.toNat]? = some z := ⟨_, List.getElem?_eq_getElem (by omega)⟩
  obtain ⟨b, hbd⟩ : ∃ b, x.Dirty[p.toNat]? = some b := ⟨_, List.getElem?_eq_getElem (by omega)⟩
  have hml := (List.getElem?_eq_some_iff.1 hx).1
  have hpl := (List.getElem?_eq_some_iff.1 hz).1
  have hml2 : m.toNat < (h.Mons.map dMon).length := by rw [List.length_map]; exact hml
  have hpl2 : p.toNat < (x.Outer.map dSlot).length := by rw [List.length_map]; exact hpl
  have qx : Q (SmMon x) := ⟨ElS.h x (List.mem_of_getElem? hx)⟩
  have hzo : z.Page = -1 → z.Rights = 0 := fun e => by rcases hmo.2.2.2.2.2 z (List.mem_of_getElem? hz) with rfl | h; (· exact rfl); (· omega)
  first | refine ixm (by assumption) ?_ | refine bnd ?_ | refine bndi ?_ | refine ixkq (fun y20 hy20 qy20 ly20 => ?_) | refine ixiq (fun y20 hy20 qy20 ly20 => ?_)
  first | refine ixs ?_ | refine ixo (by assumption) ?_ | refine ixoq (fun z1 hz1 qz1 lz1 => ?_) | skip
  first | refine ixs ?_ | refine ixo (by assumption) ?_ | refine ixoq (fun z2 hz2 qz2 lz2 => ?_) | skip
  first | refine ixm (by assumption) ?_ | refine bnd ?_ | refine bndi ?_ | refine ixkq (fun y24 hy24 qy24 ly24 => ?_) | refine ixiq (fun y24 hy24 qy24 ly24 => ?_)
  first | refine ixs ?_ | refine ixo (by assumption) ?_ | refine ixoq (fun z3 hz3 qz3 lz3 => ?_) | skip
  first | refine ixs ?_ | refine ixo (by assumption) ?_ | refine ixoq (fun z4 hz4 qz4 lz4 => ?_) | skip
  first | refine ixm (by assumption) ?_ | refine bnd ?_ | refine bndi ?_ | refine ixkq (fun y28 hy28 qy28 ly28 => ?_) | refine ixiq (fun y28 hy28 qy28 ly28 => ?_)
  first | refine ixs ?_ | refine ixo (by assumption) ?_ | refine ixoq (fun z5 hz5 qz5 lz5 => ?_) | skip
  first | refine ixs ?_ | refine ixo (by assumption) ?_ | refine ixoq (fun z6 hz6 qz6 lz6 => ?_) | skip
  first | refine ixm (by assumption) ?_ | refine bnd ?_ | refine bndi ?_ | refine ixkq (fun y32 hy32 qy32 ly32 => ?_) | refine ixiq (fun y32 hy32 qy32 ly32 => ?_)
  first | refine ixs ?_ | refine ixo (by assumption) ?_ | refine ixoq (fun z7 hz7 qz7 lz7 => ?_) | skip
  first | refine ixs ?_ | refine ixo (by assumption) ?_ | refine ixoq (fun z8 hz8 qz8 lz8 => ?_) | skip
  refine regQ ?_
  refine callQ (spec_NoSlot_f).k ?_
  refine eqa ?_
  refine cnd (fun hb2 => ?_) (fun hb2 => ?_)
  ·exact (by first | (rw [guard_yes (by assumption), guardP_1 hx hz (by omega), show ((some (hostDirt h m.toNat x p.toNat)).getD h) = hostDirt h m.toNat x p.toNat from rfl, ← dirtRow_eq]; rfl) | (rw [guard_yes (by assumption), guardP_2 hx hz (by omega)]; rfl))
  ·refine callM [(3, 0), (3, 1), (3, 2), (3, 3)] (spec_l22Slot_r2 (mi := m) (pi := p) (row := dirtRow h m.toNat x p.toNat) (hostDirt h m.toNat x p.toNat) m.toNat (dirt x p.toNat) p.toNat z ⟨z.Page, 1⟩ (by omega) (by omega) (dirtRow_eq h m.toNat x p.toNat) (set_at hx) hmo.2.2.1 hz (sm_setM (by assumption : Q (SmHost h)).h (sm_dirt qx.h))) ?_
   exact (by first | (rw [guard_yes (by assumption), guardP_1 hx hz (by omega), show ((some (hostDirt h m.toNat x p.toNat)).getD h) = hostDirt h m.toNat x p.toNat from rfl, ← dirtRow_eq]; rfl) | (rw [guard_yes (by assumption), guardP_2 hx hz (by omega)]; rfl))
end Go.Proofs.YteelmdpahpggkaaGreat.T

