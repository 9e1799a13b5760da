
import Derived.Test.YtcmoifejjodgcaaNyp
import Derived.Test.YtcmoifejjodgcaaHqp
namespace Go.Proofs.Ytcmoifejjodgcaa.T
open Go
set_option linter.unusedVariables false
set_option linter.unusedSimpArgs false
set_option maxRecDepth 100000
set_option maxHeartbeats 8000000
def slotted (h : VHost) (m : Nat) (x : VMon) (p : Nat) (z s : VSlot) : VHost :=
 {h with Mons := h.Mons.set m { x with Tables := lessKept x p, Outer := x.Outer.set p s }, Buffer := if z.Page = -1 then h.Buffer else flushHost h.Buffer z.Page, IoBuffer := if z.Page = -1 then h.IoBuffer else flushHost h.IoBuffer z.Page }
end Go.Proofs.Ytcmoifejjodgcaa.T

namespace Go.Proofs.Ytcmoifejjodgcaa.T
open Go
set_option linter.unusedVariables false
set_option linter.unusedSimpArgs false
set_option maxRecDepth 100000
set_option maxHeartbeats 8000000
def monOut (h : VHost) (x : VMon) (p : Nat) (z : VSlot) : VMon := { x with Out := x.Out.set p (pageAt h.Memory z.Page) }
def hostOut (h : VHost) (m : Nat) (x : VMon) (p : Nat) (z : VSlot) : VHost := { h with Mons := h.Mons.set m (monOut h x p z) }
theorem sm_monOut {h : VHost} {x : VMon} {p : Nat} {z : VSlot} (hh : SmHost h) (hx : SmMon x) : SmMon (monOut h x p z) := by
 refine ⟨hx.1, ⟨by show (x.Out.set _ _).length ≤ _; rw [List.length_set]; exact hx.2.1.1, fun y hy => ?_⟩, hx.2.2⟩
 rcases List.mem_or_eq_of_mem_set hy with hy | rfl
 ·exact hx.2.1.2 y hy
 ·exact sm_page1 hh.1 _
theorem out_eq {h : VHost} {m p : Nat} {x : VMon} {z : VSlot} (hx : h.Mons[m]? = some x) (hz : x.Outer[p]? = some z) : slotted (hostOut h m x p z) m (monOut h x p z) p z noSlot = sendOut h m p := by
 have h1 : (setOut h m p (pageAt h.Memory z.Page)).Mons[m]? = some { x with Out := x.Out.set p (pageAt h.Memory z.Page) } := by rw [setOut_eq hx]; exact set_at hx
 unfold sendOut
 rw [slot_is hx hz, slotSet_eq h1 hz, setOut_eq hx]
 rfl
end Go.Proofs.Ytcmoifejjodgcaa.T

namespace Go.Proofs.Ytcmoifejjodgcaa.T
open Go
set_option linter.unusedVariables false
set_option linter.unusedSimpArgs false
set_option maxRecDepth 100000
set_option maxHeartbeats 8000000
end Go.Proofs.Ytcmoifejjodgcaa.T

namespace Go.Proofs.Ytcmoifejjodgcaa.T
open Go
set_option linter.unusedVariables false
set_option linter.unusedSimpArgs false
set_option maxRecDepth 100000
set_option maxHeartbeats 8000000
theorem sm_forgetUses {k : VKept} {t : List VSlot} {p : Int} (h : SmKept k) : SmKept (forgetUses k t p) := lessBy_sm _ h
theorem sm_less {x : VMon} {p : Int} (h : SmMon x) : SmKeptS (lessKept x p) := by
 refine ⟨by have := h.2.2.2.2.2.1; simp only [lessKept, List.length_zipWith]; omega, fun y hy => ?_⟩
 obtain ⟨j, hj⟩ := List.getElem?_of_mem hy
 unfold lessKept at hj
 rw [List.getElem?_zipWith] at hj
 cases h1 : x.Tables[j]? with
 | none => rw [h1] at hj; simp at hj
 | some t =>
  cases h2 : x.Guests[j]? with
  | none => rw [h1, h2] at hj; simp at hj
  | some g =>
   rw [h1, h2] at hj
   simp only [Option.some.injEq] at hj
   rw [← hj]
   exact sm_forgetUses (h.2.2.2.2.2.2 t (List.mem_of_getElem? h1))
theorem sm_flush {b : List VEntry} {host : Int} (h : SmEntryS b) : SmEntryS (flushHost b host) := Nat.le_trans flush_len h
theorem sm_spoilt {h : VHost} {m : Nat} {x : VMon} {p : Int} {s : VSlot} (hh : SmHost h) (hx : SmMon x) : SmHost (spoilt h m x p s) := by
 refine ⟨hh.1, ⟨by show (h.Mons.set _ _).length ≤ _; rw [List.length_set]; exact hh.2.1.1, fun y hy => ?_⟩, ?_, ?_⟩
 ·rcases List.mem_or_eq_of_mem_set hy with hy | rfl
  ·exact hh.2.1.2 y hy
  ·exact ⟨hx.1, hx.2.1, hx.2.2.1, hx.2.2.2.1, hx.2.2.2.2.1, sm_less hx⟩
 ·show SmEntryS (if _ then _ else _)
  split
  ·exact hh.2.2.1
  ·exact sm_flush hh.2.2.1
 ·show SmEntryS (if _ then _ else _)
  split
  ·exact hh.2.2.2
  ·exact sm_flush hh.2.2.2
theorem pageOut_cases {h : VHost} {m p : Int} : pageOut h m p = none ∨ ∃ x z, h.Mons[m.toNat]? = some x ∧ x.Outer[p.toNat]? = some z ∧ pageOut h m p = some (spoilt (hostSent h m.toNat x p.toNat z) m.toNat (monSent h x p.toNat z) p.toNat z) := by
 cases hp : hasPage h m p with
 | false => exact .inl (pageOut_no hp)
 | true =>
  have hpg := hasPage_on.1 hp
  have hx : h.Mons[m.toNat]? = some (h.Mons[m.toNat]'(by omega)) := List.getElem?_eq_getElem (by omega)
  have hmo := mon_outer (host_mon hpg.1 hx)
  have hz : (h.Mons[m.toNat]'(by omega)).Outer[p.toNat]? = some ((h.Mons[m.toNat]'(by omega)).Outer[p.toNat]'(by omega)) := List.getElem?_eq_getElem (by omega)
  rcases Decidable.em (((h.Mons[m.toNat]'(by omega)).Outer[p.toNat]'(by omega)).Page = -1) with h1 | h1
  ·exact .inl (pageOut_off hx hz h1)
  ·exact .inr ⟨_, _, hx, hz, by rw [sent_eq hx hz]; exact pageOut_yes hp hx hz h1⟩
theorem sm_pageOut {h : VHost} {m p : Int} (hh : SmHost h) : SmHost ((pageOut h m p).getD h) := by
 rcases @pageOut_cases h m p with h1 | ⟨x, z, hx, hz, h1⟩
 ·rw [h1]; exact hh
 ·rw [h1]
  have hm := hh.2.1.2 x (List.mem_of_getElem? hx)
  exact sm_spoilt (sm_hostSent hh hm) (sm_monSent hh hm)
theorem sm_outTo {h : VHost} {m : Int} (hh : SmHost h) : ∀ n, SmHost (outTo h m n)
 | 0 => hh
 | n + 1 => sm_pageOut (sm_outTo hh n)
instance (h : VHost) (m : Int) (n : Nat) [hh : Q (SmHost h)] : Q (SmHost (outTo h m n)) := ⟨sm_outTo hh.h n⟩
end Go.Proofs.Ytcmoifejjodgcaa.T

namespace Go.Proofs.Ytcmoifejjodgcaa.T
open Go
set_option linter.unusedVariables false
set_option linter.unusedSimpArgs false
set_option maxRecDepth 100000
set_option maxHeartbeats 8000000
def dirt (x : VMon) (p : Nat) : VMon := { x with Dirty := x.Dirty.set p false }
def hostDirt (h : VHost) (m : Nat) (x : VMon) (p : Nat) : VHost := { h with Mons := h.Mons.set m (dirt x p) }
def rdOnly (x : VMon) (p : Nat) (z : VSlot) : VMon := { x with Outer := x.Outer.set p ⟨z.Page, 1⟩ }
def hostRd (h : VHost) (m : Nat) (x : VMon) (p : Nat) (z : VSlot) : VHost := { h with Mons := h.Mons.set m (rdOnly x p z) }
theorem dirt_dm (x : VMon) (p : Nat) : dMon (dirt x p) = .st [.sl 2 (x.Outer.map dSlot), .sl 1 (x.Out.map dIntS), .sl 1 ((x.Dirty.map dBool).set p (.v (.bool false))), .sl 15 (x.Guests.map dGuest), .sl 1 (x.Outs.map dInt), .v (.int .i64 x.Pending), .v (.int .i64 x.Traps), .sl 2 (x.Tables.map dKept), .v (.int .i64 x.Own)] := by
 show D.st [_, _, .sl 1 ((x.Dirty.set p false).map dBool), _, _, _, _, _, _] = _
 rw [List.map_set]
 rfl
theorem rd_dm (x : VMon) (p : Nat) (z : VSlot) : dMon (rdOnly x p z) = .st [.sl 2 ((x.Outer.map dSlot).set p (.st [.v (.int .i64 z.Page), .v (.int .i64 1)])), .sl 1 (x.Out.map dIntS), .sl 1 (x.Dirty.map dBool), .sl 15 (x.Guests.map dGuest), .sl 1 (x.Outs.map dInt), .v (.int .i64 x.Pending), .v (.int .i64 x.Traps), .sl 2 (x.Tables.map dKept), .v (.int .i64 x.Own)] := by
 show D.st [.sl 2 ((x.Outer.set p ⟨z.Page, 1⟩).map dSlot), _, _, _, _, _, _, _, _] = _
 rw [List.map_set]
 rfl
abbrev dirtRow (h : VHost) (m : Nat) (x : VMon) (p : Nat) : List D := [.sl 1 (h.Memory.map dIntS), .sl 9 ((h.Mons.map dMon).set m (.st [.sl 2 (x.Outer.map dSlot), .sl 1 (x.Out.map dIntS), .sl 1 ((x.Dirty.map dBool).set p (.v (.bool false))), .sl 15 (x.Guests.map dGuest), .sl 1 (x.Outs.map dInt), .v (.int .i64 x.Pending), .v (.int .i64 x.Traps), .sl 2 (x.Tables.map dKept), .v (.int .i64 x.Own)])), .sl 4 (h.Buffer.map dEntry), .sl 4 (h.IoBuffer.map dEntry)]
theorem dirtRow_eq (h : VHost) (m : Nat) (x : VMon) (p : Nat) : dirtRow h m x p = rHost (hostDirt h m x p) := by
 unfold dirtRow hostDirt
 rw [← dirt_dm, ← List.map_set]
abbrev rdRow (h : VHost) (m : Nat) (x : VMon) (p : Nat) (z : VSlot) : List D := [.sl 1 (h.Memory.map dIntS), .sl 9 ((h.Mons.map dMon).set m (.st [.sl 2 ((x.Outer.map dSlot).set p (.st [.v (.int .i64 z.Page), .v (.int .i64 1)])), .sl 1 (x.Out.map dIntS), .sl 1 (x.Dirty.map dBool), .sl 15 (x.Guests.map dGuest), .sl 1 (x.Outs.map dInt), .v (.int .i64 x.Pending), .v (.int .i64 x.Traps), .sl 2 (x.Tables.map dKept), .v (.int .i64 x.Own)])), .sl 4 (h.Buffer.map dEntry), .sl 4 (h.IoBuffer.map dEntry)]
theorem rdRow_eq (h : VHost) (m : Nat) (x : VMon) (p : Nat) (z : VSlot) : rdRow h m x p z = rHost (hostRd h m x p z) := by
 unfold rdRow hostRd
 rw [← rd_dm, ← List.map_set]
theorem sm_dirt {x : VMon} {p : Nat} (hx : SmMon x) : SmMon (dirt x p) := ⟨hx.1, hx.2.1, by show (x.Dirty.set _ _).length ≤ _; rw [List.length_set]; exact hx.2.2.1, hx.2.2.2⟩
theorem sm_rd {x : VMon} {p : Nat} {z : VSlot} (hx : SmMon x) : SmMon (rdOnly x p z) := ⟨by show (x.Outer.set _ _).length ≤ _; rw [List.length_set]; exact hx.1, hx.2⟩
theorem sm_setM {h : VHost} {m : Nat} {y : VMon} (hh : SmHost h) (hy : SmMon y) : SmHost { h with Mons := h.Mons.set m y } := by
 refine ⟨hh.1, ⟨by show (h.Mons.set _ _).length ≤ _; rw [List.length_set]; exact hh.2.1.1, fun w hw => ?_⟩, hh.2.2⟩
 rcases List.mem_or_eq_of_mem_set hw with hw | rfl
 ·exact hh.2.1.2 w hw
 ·exact hy
def guarded (h : VHost) (m : Nat) (x : VMon) (p : Nat) (z : VSlot) : VHost := slotted (hostDirt h m x p) m (dirt x p) p z ⟨z.Page, 1⟩
theorem setDirty_eq {h : VHost} {m p : Nat} {x : VMon} (hx : h.Mons[m]? = some x) : setDirty h m p false = hostDirt h m x p := by
 unfold setDirty setMon
 rw [mon_is hx]
 rfl
theorem guardP_1 {h : VHost} {m p : Nat} {x : VMon} {z : VSlot} (hx : h.Mons[m]? = some x) (hz : x.Outer[p]? = some z) (h1 : z.Page = -1) : guardP h m p = hostDirt h m x p := by
 unfold guardP
 rw [slot_is hx hz, if_pos h1, setDirty_eq hx]
theorem guardP_2 {h : VHost} {m p : Nat} {x : VMon} {z : VSlot} (hx : h.Mons[m]? = some x) (hz : x.Outer[p]? = some z) (h1 : ¬ z.Page = -1) : guardP h m p = guarded h m x p z := by
 unfold guardP
 rw [slot_is hx hz, if_neg h1, setDirty_eq hx]
 have h2 : (hostDirt h m x p).Mons[m]? = some (dirt x p) := set_at hx
 exact slotSet_eq h2 hz
theorem guard_no {h : VHost} {m p : Int} (hp : hasPage h m p = false) : guard h m p = none := by unfold guard; rw [hp]; rfl
theorem guard_yes {h : VHost} {m p : Int} (hp : hasPage h m p = true) : guard h m p = some (guardP h m.toNat p.toNat) := by unfold guard; rw [hp]; rfl
def spMon (x : VMon) (p : Nat) (z : VSlot) : VMon := { rdOnly x p z with Tables := lessKept (rdOnly x p z) p }
theorem guarded_row {h : VHost} {m p : Nat} {x : VMon} {z : VSlot} : rHost (guarded h m x p z) = [.sl 1 ((spoilt (hostRd h m x p z) m (rdOnly x p z) p z).Memory.map dIntS), .sl 9 (((spoilt (hostRd h m x p z) m (rdOnly x p z) p z).Mons.map dMon).set m (.st [.sl 2 ((spMon x p z).Outer.map dSlot), .sl 1 ((spMon x p z).Out.map dIntS), .sl 1 (((spMon x p z).Dirty.map dBool).set p (.v (.bool false))), .sl 15 ((spMon x p z).Guests.map dGuest), .sl 1 ((spMon x p z).Outs.map dInt), .v (.int .i64 (spMon x p z).Pending), .v (.int .i64 (spMon x p z).Traps), .sl 2 ((spMon x p z).Tables.map dKept), .v (.int .i64 (spMon x p z).Own)])), .sl 4 ((spoilt (hostRd h m x p z) m (rdOnly x p z) p z).Buffer.map dEntry), .sl 4 ((spoilt (hostRd h m x p z) m (rdOnly x p z) p z).IoBuffer.map dEntry)] := by
 have e : dMon (dirt (spMon x p z) p) = .st [.sl 2 ((spMon x p z).Outer.map dSlot), .sl 1 ((spMon x p z).Out.map dIntS), .sl 1 (((spMon x p z).Dirty.map dBool).set p (.v (.bool false))), .sl 15 ((spMon x p z).Guests.map dGuest), .sl 1 ((spMon x p z).Outs.map dInt), .v (.int .i64 (spMon x p z).Pending), .v (.int .i64 (spMon x p z).Traps), .sl 2 ((spMon x p z).Tables.map dKept), .v (.int .i64 (spMon x p z).Own)] := dirt_dm _ _
 rw [← e, ← List.map_set]
 unfold spoilt guarded slotted hostDirt hostRd
 simp only [List.set_set]
 rfl
theorem impl_invalidate_r2 {row : List D} {mi pi : Int} {s : VSlot} (h : VHost) (m : Nat) (x : VMon) (p : Nat) (hmi : mi = m) (hpi : pi = p) (hr : row = rHost h) (hx : h.Mons[m]? = some x) (hxt : x.Tables.length = x.Guests.length) (q : SmHost h) :
  Fun2K Try.prog 43 row 1 [.one (.ptr ⟨1000001, [], 0⟩), I mi, I pi, A (rSlot s)] (RP2 (rHost (spoilt h m x p s)) (.tup [])) := by
 subst hmi hpi hr
 have : Q (SmHost h) := ⟨q⟩
 exact impl_invalidate_f h m x p s hx hxt
theorem impl_copyMove_f (v : VMove) [Q (SmMove v)] : Fun Try.prog 17 [A (rMove v)] (RG [.a (rMove v)]) := by
 refine Fun.w 9 Try.func17 fun w g0 _ => ?_
 refine regU [6] [(0, 0), (1, 0), (2, 0), (3, 0), (4, 1), (5, 0), (6, 1)] ?_
 refine callL (impl_copyMem_f _).k ?_
 exact rfl
theorem impl_Guard_f (h : VHost) (m : Int) (p : Int) [Q (SmHost h)] : Fun Try.prog 22 [A (rHost h), I m, I p] (RG [.a (rHost ((guard h m p).getD h)), .c (.v (.bool (guard h m p).isSome))]) := by
 refine Fun.w 51 Try.func22 fun w g0 hM => ?_
 have hl0 := hM.1.2.1.map
 refine callG (impl_copyHost_f h).k ?_
 refine callP (impl_hasPage_f h m p).k ?_
 refine cnd (fun hb => ?_) (fun hb => ?_)
 ·exact (by rw [guard_no (by assumption)]; rfl)
 ·have hn1 : noSlot.Page = -1 := rfl
  have hn2 : noSlot.Rights = 0 := rfl
  have hpg := hasPage_on.1 (by assumption : hasPage h m p = true)
  obtain ⟨x, hx⟩ : ∃ x, h.Mons[m.toNat]? = some x := ⟨_, List.getElem?_eq_getElem (by omega)⟩
  have hmo := mon_outer (host_mon hpg.1 hx)
  obtain ⟨z, hz⟩ : ∃ z, x.Outer[p.toNat]? = some z := ⟨_, List.getElem?_eq_getElem (by omega)⟩
  obtain ⟨b, hbd⟩ : ∃ b, x.Dirty[p.toNat]? = some b := ⟨_, List.getElem?_eq_getElem (by omega)⟩
  have hml := (List.getElem?_eq_some_iff.1 hx).1
  have hpl := (List.getElem?_eq_some_iff.1 hz).1
  have hml2 : m.toNat < (h.Mons.map dMon).length := by rw [List.length_map]; exact hml
  have hpl2 : p.toNat < (x.Outer.map dSlot).length := by rw [List.length_map]; exact hpl
  have qx : Q (SmMon x) := ⟨ElS.h x (List.mem_of_getElem? hx)⟩
  have hzo : z.Page = -1 → z.Rights = 0 := fun e => by rcases hmo.2.2.2.2.2 z (List.mem_of_getElem? hz) with rfl | h; (· exact rfl); (· omega)
  first | refine ixm (by assumption) ?_ | refine bnd ?_ | refine bndi ?_ | refine ixkq (fun y22 hy22 qy22 ly22 => ?_) | refine ixiq (fun y22 hy22 qy22 ly22 => ?_)
  first | refine ixs ?_ | refine ixo (by assumption) ?_ | refine ixoq (fun z1 hz1 qz1 lz1 => ?_) | skip
  first | refine ixs ?_ | refine ixo (by assumption) ?_ | refine ixoq (fun z2 hz2 qz2 lz2 => ?_) | skip
  first | refine ixm (by assumption) ?_ | refine bnd ?_ | refine bndi ?_ | refine ixkq (fun y28 hy28 qy28 ly28 => ?_) | refine ixiq (fun y28 hy28 qy28 ly28 => ?_)
  first | refine ixs ?_ | refine ixo (by assumption) ?_ | refine ixoq (fun z3 hz3 qz3 lz3 => ?_) | skip
  first | refine ixs ?_ | refine ixo (by assumption) ?_ | refine ixoq (fun z4 hz4 qz4 lz4 => ?_) | skip
  refine cnd (fun hb2 => ?_) (fun hb2 => ?_)
  ·first | refine ixs ?_ | refine ixo (by assumption) ?_ | refine ixoq (fun z5 hz5 qz5 lz5 => ?_) | skip
   first | refine ixs ?_ | refine ixo (by assumption) ?_ | refine ixoq (fun z6 hz6 qz6 lz6 => ?_) | skip
   first | refine ixm (by assumption) ?_ | refine bnd ?_ | refine bndi ?_ | refine ixkq (fun y38 hy38 qy38 ly38 => ?_) | refine ixiq (fun y38 hy38 qy38 ly38 => ?_)
   first | refine ixs ?_ | refine ixo (by assumption) ?_ | refine ixoq (fun z7 hz7 qz7 lz7 => ?_) | skip
   first | refine ixs ?_ | refine ixo (by assumption) ?_ | refine ixoq (fun z8 hz8 qz8 lz8 => ?_) | skip
   have hsp : (spoilt (hostRd h m.toNat x p.toNat z) m.toNat (rdOnly x p.toNat z) p.toNat z).Mons[m.toNat]? = some (spMon x p.toNat z) := set_at (set_at hx)
   have hdl8 : (spMon x p.toNat z).Dirty.length = 8 := hmo.2.2.2.2.1
   have hbd2 : (spMon x p.toNat z).Dirty[p.toNat]? = some b := hbd
   have hsl := (List.getElem?_eq_some_iff.1 hsp).1
   have hdl := (List.getElem?_eq_some_iff.1 hbd).1
   refine callK 8 1 9 m.toNat 0 (impl_invalidate_r2 (mi := m) (pi := p) (row := rdRow h m.toNat x p.toNat z) (hostRd h m.toNat x p.toNat z) m.toNat (rdOnly x p.toNat z) p.toNat (by omega) (by omega) (rdRow_eq h m.toNat x p.toNat z) (set_at hx) hmo.2.2.1 (sm_setM (by assumption : Q (SmHost h)).h (sm_rd qx.h))) rfl rfl (by simp only [List.length_set, List.length_map]; omega) (by rw [List.length_map]; exact hsl) ?_
   first | refine ixs ?_ | refine ixo (by assumption) ?_ | refine ixoq (fun z9 hz9 qz9 lz9 => ?_) | skip
   first | refine ixs ?_ | refine ixo (by assumption) ?_ | refine ixoq (fun z10 hz10 qz10 lz10 => ?_) | skip
   first | refine ixm (by assumption) ?_ | refine bnd ?_ | refine bndi ?_ | refine ixkq (fun y49 hy49 qy49 ly49 => ?_) | refine ixiq (fun y49 hy49 qy49 ly49 => ?_)
   first | refine ixs ?_ | refine ixo (by assumption) ?_ | refine ixoq (fun z11 hz11 qz11 lz11 => ?_) | skip
   first | refine ixs ?_ | refine ixo (by assumption) ?_ | refine ixoq (fun z12 hz12 qz12 lz12 => ?_) | skip
   exact (by first | (rw [guard_yes (by assumption), guardP_1 hx hz (by omega), show ((some (hostDirt h m.toNat x p.toNat)).getD h) = hostDirt h m.toNat x p.toNat from rfl, ← dirtRow_eq]; rfl) | (rw [guard_yes (by assumption), guardP_2 hx hz (by omega), show ((some (guarded h m.toNat x p.toNat z)).getD h) = guarded h m.toNat x p.toNat z from rfl, guarded_row]; rfl))
  ·first | refine ixs ?_ | refine ixo (by assumption) ?_ | refine ixoq (fun z13 hz13 qz13 lz13 => ?_) | skip
   first | refine ixs ?_ | refine ixo (by assumption) ?_ | refine ixoq (fun z14 hz14 qz14 lz14 => ?_) | skip
   first | refine ixm (by assumption) ?_ | refine bnd ?_ | refine bndi ?_ | refine ixkq (fun y49 hy49 qy49 ly49 => ?_) | refine ixiq (fun y49 hy49 qy49 ly49 => ?_)
   first | refine ixs ?_ | refine ixo (by assumption) ?_ | refine ixoq (fun z15 hz15 qz15 lz15 => ?_) | skip
   first | refine ixs ?_ | refine ixo (by assumption) ?_ | refine ixoq (fun z16 hz16 qz16 lz16 => ?_) | skip
   exact (by first | (rw [guard_yes (by assumption), guardP_1 hx hz (by omega), show ((some (hostDirt h m.toNat x p.toNat)).getD h) = hostDirt h m.toNat x p.toNat from rfl, ← dirtRow_eq]; rfl) | (rw [guard_yes (by assumption), guardP_2 hx hz (by omega), show ((some (guarded h m.toNat x p.toNat z)).getD h) = guarded h m.toNat x p.toNat z from rfl, guarded_row]; rfl))
end Go.Proofs.Ytcmoifejjodgcaa.T

namespace Go.Proofs.Ytcmoifejjodgcaa.T
open Go
set_option linter.unusedVariables false
set_option linter.unusedSimpArgs false
set_option maxRecDepth 100000
set_option maxHeartbeats 1000000
end Go.Proofs.Ytcmoifejjodgcaa.T

namespace Go.Proofs.Ytcmoifejjodgcaa.T
open Go
set_option linter.unusedVariables false
set_option linter.unusedSimpArgs false
set_option maxRecDepth 100000
set_option maxHeartbeats 1000000
end Go.Proofs.Ytcmoifejjodgcaa.T

namespace Go.Proofs.Ytcmoifejjodgcaa.T
open Go
set_option linter.unusedVariables false
set_option linter.unusedSimpArgs false
set_option maxRecDepth 100000
set_option maxHeartbeats 1000000
end Go.Proofs.Ytcmoifejjodgcaa.T

namespace Go.Proofs.Ytcmoifejjodgcaa.T
open Go
set_option linter.unusedVariables false
set_option linter.unusedSimpArgs false
set_option maxRecDepth 100000
set_option maxHeartbeats 8000000
end Go.Proofs.Ytcmoifejjodgcaa.T

namespace Go.Proofs.Ytcmoifejjodgcaa.T
open Go
set_option linter.unusedVariables false
set_option linter.unusedSimpArgs false
set_option maxRecDepth 100000
set_option maxHeartbeats 1000000
end Go.Proofs.Ytcmoifejjodgcaa.T

namespace Go.Proofs.Ytcmoifejjodgcaa.T
open Go
set_option linter.unusedVariables false
set_option linter.unusedSimpArgs false
set_option maxRecDepth 100000
set_option maxHeartbeats 8000000
theorem sm_page {m : List (List Int)} (h : SmIntSS m) (n : Int) : SmIntS (pageAt m n) := by
 unfold pageAt at?
 split
 ·cases hx : m[n.toNat]? with
  | none => simp [SmIntS]
  | some x => exact h.2 x (List.mem_of_getElem? hx)
 ·simp [SmIntS]
theorem sm_pageOf {h : VHost} (hh : SmHost h) (m n : Int) : SmIntS (pageOf h m n) := by
 unfold pageOf
 cases hx : monAt h m with
 | none => simp [SmIntS]
 | some x =>
  have h1 : x = monOr h m := by simp [monOr, hx]
  have h2 : SmMon x := by rw [h1]; exact sm_monOr hh
  simp only
  split
  ·split
   ·exact sm_page hh.1 _
   ·exact sm_page h2.2.1 _
  ·simp [SmIntS]
theorem sm_fill {h : VHost} {v : VMove} (hh : SmHost h) : ∀ {l : List Int} {o : List (List Int)}, SmIntSS o → SmIntSS (fillLeft h v l o)
 | [], o, ho => ho
 | p :: l, o, ho => by
  rw [fillLeft]
  refine sm_fill hh ⟨by rw [putM_len]; exact ho.1, fun x hx => ?_⟩
  unfold put at hx
  split at hx
  ·rcases List.mem_or_eq_of_mem_set hx with hx | rfl
   ·exact ho.2 x hx
   ·exact sm_pageOf hh _ _
  ·exact ho.2 x hx
theorem sm_image {h : VHost} {v : VMove} (hh : SmHost h) (hv : SmMove v) : SmMon ((moveImage h v).getD noMon) := by
 unfold moveImage
 split
 ·cases hx : at? h.Mons v.M with
  | none => exact ⟨by simp [SmSlotS], ⟨by simp, fun x hx => by cases hx⟩, by simp [SmBoolS], ⟨by simp, fun x hx => by cases hx⟩, by simp [SmIntS], ⟨by simp, fun x hx => by cases hx⟩⟩
  | some x =>
   have h1 : x = monOr h v.M := by simp [monOr, monAt, hx]
   have h2 : SmMon x := by rw [h1]; exact sm_monOr hh
   refine ⟨by simp [SmSlotS, tableNew], sm_fill hh hv, by simp [SmBoolS], h2.2.2.2.1, h2.2.2.2.2.1, ⟨by simpa using h2.2.2.2.2.2.1, fun y hy => ?_⟩⟩
   obtain ⟨_, _, rfl⟩ := List.mem_map.1 hy
   exact ⟨by simp [keptNew, SmBoolS], by simp [keptNew, SmSlotS]⟩
 ·exact ⟨by simp [SmSlotS], ⟨by simp, fun x hx => by cases hx⟩, by simp [SmBoolS], ⟨by simp, fun x hx => by cases hx⟩, by simp [SmIntS], ⟨by simp, fun x hx => by cases hx⟩⟩
end Go.Proofs.Ytcmoifejjodgcaa.T

namespace Go.Proofs.Ytcmoifejjodgcaa.T
open Go
set_option linter.unusedVariables false
set_option linter.unusedSimpArgs false
set_option maxRecDepth 100000
set_option maxHeartbeats 8000000
theorem mc_no {h : VHost} {v : VMove} {p : Int} (hm : moves h v = false ∨ ¬ (0 ≤ p ∧ p < 8)) : moveCopy h v p = none := by
 unfold moveCopy
 refine if_neg fun e => ?_
 simp only [Bool.and_eq_true, inR, decide_eq_true_eq] at e
 rcases hm with hm | hm
 ·rw [hm] at e; cases e.1
 ·omega
theorem mc_yes {h : VHost} {v : VMove} {p : Int} (hm : moves h v = true) (hp : 0 ≤ p ∧ p < 8) : moveCopy h v p = some ((guard h v.M p).getD h, { v with Have := v.Have.set p.toNat (pageOf h v.M p) }) := by
 unfold moveCopy
 rw [if_pos (by simp only [Bool.and_eq_true, inR, decide_eq_true_eq]; exact ⟨hm, by omega⟩)]
 unfold put
 rw [if_pos hp.1]
theorem sm_slotted {h : VHost} {m p : Nat} {x : VMon} {z s : VSlot} (hh : SmHost h) (hx : SmMon x) : SmHost (slotted h m x p z s) := by
 refine ⟨hh.1, ⟨by show (h.Mons.set _ _).length ≤ _; rw [List.length_set]; exact hh.2.1.1, fun y hy => ?_⟩, ?_, ?_⟩
 ·rcases List.mem_or_eq_of_mem_set hy with hy | rfl
  ·exact hh.2.1.2 y hy
  ·exact ⟨by show (x.Outer.set _ _).length ≤ _; rw [List.length_set]; exact hx.1, hx.2.1, hx.2.2.1, hx.2.2.2.1, hx.2.2.2.2.1, sm_less hx⟩
 ·show SmEntryS (if _ then _ else _)
  split
  ·exact hh.2.2.1
  ·exact sm_flush hh.2.2.1
 ·show SmEntryS (if _ then _ else _)
  split
  ·exact hh.2.2.2
  ·exact sm_flush hh.2.2.2
theorem guard_cases {h : VHost} {m p : Int} : guard h m p = none ∨ ∃ x z, h.Mons[m.toNat]? = some x ∧ x.Outer[p.toNat]? = some z ∧ hostOk h = true ∧ (guard h m p = some (hostDirt h m.toNat x p.toNat) ∨ guard h m p = some (guarded h m.toNat x p.toNat z)) := by
 cases hp : hasPage h m p with
 | false => exact .inl (guard_no hp)
 | true =>
  have hpg := hasPage_on.1 hp
  have hx : h.Mons[m.toNat]? = some (h.Mons[m.toNat]'(by omega)) := List.getElem?_eq_getElem (by omega)
  have hmo := mon_outer (host_mon hpg.1 hx)
  have hz : (h.Mons[m.toNat]'(by omega)).Outer[p.toNat]? = some ((h.Mons[m.toNat]'(by omega)).Outer[p.toNat]'(by omega)) := List.getElem?_eq_getElem (by omega)
  refine .inr ⟨_, _, hx, hz, hpg.1, ?_⟩
  rcases Decidable.em (((h.Mons[m.toNat]'(by omega)).Outer[p.toNat]'(by omega)).Page = -1) with h1 | h1
  ·exact .inl (by rw [guard_yes hp, guardP_1 hx hz h1])
  ·exact .inr (by rw [guard_yes hp, guardP_2 hx hz h1])
theorem sm_guard {h : VHost} {m p : Int} (hh : SmHost h) : SmHost ((guard h m p).getD h) := by
 rcases @guard_cases h m p with h1 | ⟨x, z, hx, hz, _, h1⟩
 ·rw [h1]; exact hh
 ·have hm := hh.2.1.2 x (List.mem_of_getElem? hx)
  rcases h1 with h1 | h1
  ·rw [h1]; exact sm_setM hh (sm_dirt hm)
  ·rw [h1]; exact sm_slotted (sm_setM hh (sm_dirt hm)) (sm_dirt hm)
abbrev mcH (h : VHost) (v : VMove) (p : Int) : VHost := ((moveCopy h v p).map Prod.fst).getD h
abbrev mcV (h : VHost) (v : VMove) (p : Int) : VMove := ((moveCopy h v p).map Prod.snd).getD v
theorem sm_mcH {h : VHost} {v : VMove} {p : Int} (hh : SmHost h) : SmHost (mcH h v p) := by
 unfold mcH moveCopy
 split
 ·exact sm_guard hh
 ·exact hh
instance (h : VHost) (v : VMove) (p : Int) [hh : Q (SmHost h)] : Q (SmHost (mcH h v p)) := ⟨sm_mcH hh.h⟩
theorem sm_mcV {h : VHost} {v : VMove} {p : Int} (hh : SmHost h) (hv : SmMove v) : SmMove (mcV h v p) := by
 unfold mcV moveCopy
 split
 ·refine ⟨by show (put v.Have p _).length ≤ _; rw [putM_len]; exact hv.1, fun x hx => ?_⟩
  have hx : x ∈ put v.Have p (pageOf h v.M p) := hx
  unfold put at hx
  split at hx
  ·rcases List.mem_or_eq_of_mem_set hx with hx | rfl
   ·exact hv.2 x hx
   ·exact sm_pageOf hh _ _
  ·exact hv.2 x hx
 ·exact hv
instance (h : VHost) (v : VMove) (p : Int) [hh : Q (SmHost h)] [hv : Q (SmMove v)] : Q (SmMove (mcV h v p)) := ⟨sm_mcV hh.h hv.h⟩
theorem impl_MoveCopy_f (h : VHost) (v : VMove) (p : Int) [Q (SmHost h)] [Q (SmMove v)] : Fun Try.prog 7 [A (rHost h), A (rMove v), I p] (RG [.a (rHost (((moveCopy h v p).map Prod.fst).getD h)), .a (rMove (((moveCopy h v p).map Prod.snd).getD v)), .c (.v (.bool (moveCopy h v p).isSome))]) := by
 refine Fun.w 45 Try.func7 fun w g0 hM => ?_
 have hl0 := hM.1.2.1.map
 have hl1 := hM.2.1.2.1.map
 refine callG (impl_copyMove_f v).k ?_
 refine callP (impl_moves_f h v).k ?_
 refine cnd (fun hg4 => ?_) (fun hg4 => ?_)
 ·refine regT [0, 2, 3, 4] [] [] (.fork (.alt 0 (.fork (.alt 1 (.fork (.alt 2 (.fork (.alt 3 (.fork (.alt 4 (.quiet 5 0 .done) .stop)) .stop)) (.alt 3 (.fork (.alt 2 (.fork (.alt 4 (.quiet 5 0 .done) .stop)) .stop)) .stop))) (.alt 2 (.fork (.alt 1 (.fork (.alt 3 (.fork (.alt 4 (.quiet 5 0 .done) .stop)) .stop)) .stop)) .stop))) (.alt 2 (.fork (.alt 0 (.fork (.alt 1 (.fork (.alt 3 (.fork (.alt 4 (.quiet 5 0 .done) .stop)) .stop)) .stop)) .stop)) .stop))) ?_
  repeat' first | exact True.intro | refine And.intro ?_ ?_ | (intro _ _) | refine callG (impl_copyHost_f h).k ?_
  all_goals exact (by rw [mc_no (by first | (left; assumption) | (right; omega))]; rfl)
 ·refine callP (impl_has_f p 8).k ?_
  refine cnd (fun hb => ?_) (fun hb => ?_)
  ·refine regT [0, 2, 3, 4] [] [] (.fork (.alt 0 (.fork (.alt 1 (.fork (.alt 2 (.fork (.alt 3 (.fork (.alt 4 (.quiet 5 0 .done) .stop)) .stop)) (.alt 3 (.fork (.alt 2 (.fork (.alt 4 (.quiet 5 0 .done) .stop)) .stop)) .stop))) (.alt 2 (.fork (.alt 1 (.fork (.alt 3 (.fork (.alt 4 (.quiet 5 0 .done) .stop)) .stop)) .stop)) .stop))) (.alt 2 (.fork (.alt 0 (.fork (.alt 1 (.fork (.alt 3 (.fork (.alt 4 (.quiet 5 0 .done) .stop)) .stop)) .stop)) .stop)) .stop))) ?_
   repeat' first | exact True.intro | refine And.intro ?_ ?_ | (intro _ _) | refine callG (impl_copyHost_f h).k ?_
   all_goals exact (by rw [mc_no (by first | (left; assumption) | (right; omega))]; rfl)
  ·have hmv : moves h v = true := by assumption
   have hpr : 0 ≤ p ∧ p < 8 := by omega
   have hmy := moves_yes hmv
   obtain ⟨y, hy⟩ : ∃ y, v.Have[p.toNat]? = some y := ⟨_, List.getElem?_eq_getElem (by omega)⟩
   refine regU [9] [(0, 0), (1, 0), (2, 0), (3, 0), (4, 0), (5, 0), (6, 0), (7, 1), (8, 0), (9, 1)] ?_
   refine callL (impl_PageOf_f h v.M p).k ?_
   first | refine ixm (by assumption) ?_ | refine bnd ?_ | refine bndi ?_ | refine ixkq (fun y34 hy34 qy34 ly34 => ?_) | refine ixiq (fun y34 hy34 qy34 ly34 => ?_)
   first | refine ixs ?_ | refine ixo (by assumption) ?_ | refine ixoq (fun z1 hz1 qz1 lz1 => ?_) | skip
   refine callG (impl_Guard_f h v.M p).k ?_
   refine regT [0, 1, 2, 3] [] [] (.fork (.alt 0 (.fork (.alt 1 (.fork (.alt 2 (.fork (.alt 3 (.quiet 4 0 .done) .stop)) .stop)) (.alt 2 (.fork (.alt 1 (.fork (.alt 3 (.quiet 4 0 .done) .stop)) .stop)) .stop))) (.alt 1 (.fork (.alt 0 (.fork (.alt 2 (.fork (.alt 3 (.quiet 4 0 .done) .stop)) .stop)) .stop)) .stop))) ?_
   repeat' first | exact True.intro | refine And.intro ?_ ?_ | (intro _ _)
   all_goals exact (by rw [mc_yes hmv hpr]; show RG [.a (rHost ((guard h v.M p).getD h)), .a [.v (.int .i64 v.M), .sl 1 ((v.Have.set p.toNat (pageOf h v.M p)).map dIntS)], .c (.v (.bool true))] _; rw [List.map_set]; rfl)
end Go.Proofs.Ytcmoifejjodgcaa.T

