
import Derived.Test.YtcmoifejjodgcaaQep
import Derived.Test.YtcmoifejjodgcaaPdp
import Derived.Test.YtcmoifejjodgcaaPlp
import Derived.Test.YtcmoifejjodgcaaNpp
import Derived.Test.YtcmoifejjodgcaaOfp
namespace Go.Proofs.Ytcmoifejjodgcaa.T
open Go
set_option linter.unusedVariables false
set_option linter.unusedSimpArgs false
set_option maxRecDepth 100000
set_option maxHeartbeats 8000000
theorem on_both {h : VHost} {m : Int} {F : VBare → Option VBare} (ho : (onMon h m F).isSome = true) : hasMon h m = true ∧ (F (viewOf (mon h m.toNat))).isSome = true := by
 unfold onMon at ho
 cases hm : hasMon h m with
 | false => rw [hm] at ho; cases ho
 | true =>
  rw [hm, if_pos rfl] at ho
  refine ⟨rfl, ?_⟩
  cases e : F (viewOf (mon h m.toNat)) with
  | none => rw [e] at ho; cases ho
  | some b => rfl
abbrev flF (g p : Int) : VBare → Option VBare := fun b => bareFlush b g p
abbrev flH (h : VHost) (m g p : Int) : VHost := (onMon h m (flF g p)).getD h
theorem flush_g {b : VBare} {g p : Int} (hs : (bareFlush b g p).isSome = true) : 0 ≤ g ∧ g < b.Guests.length := by
 unfold bareFlush onGuest at hs
 split at hs
 ·cases e : at? b.Guests g with
  | none => rw [e] at hs; cases hs
  | some x =>
   unfold at? at e
   split at e
   ·rename_i h0
    have := (List.getElem?_eq_some_iff.1 e).1
    omega
   ·cases e
 ·cases hs
structure Flu (h : VHost) (m g p : Int) (x : VMon) (k : VKept) : Prop where
 hm : hasMon h m = true
 h0 : 0 ≤ m ∧ 0 ≤ g
 sm : SmHost (flH h m g p)
 hx : (flH h m g p).Mons[m.toNat]? = some x
 hk : x.Tables[g.toNat]? = some k
theorem flu_at {h : VHost} {m g p : Int} (hs : SmHost h) (ho : (onMon h m (flF g p)).isSome = true) : ∃ x k, Flu h m g p x k := by
 obtain ⟨hm, h1⟩ := on_both ho
 have h2 := hasMon_of hm
 have hx := mon_is2 h2.2
 have hg := flush_g h1
 have hmo := mon_outer (host_mon h2.1 hx)
 have hgl : g < (mon h m.toNat).Guests.length := hg.2
 obtain ⟨k, hk⟩ : ∃ k, (mon h m.toNat).Tables[g.toNat]? = some k := ⟨_, List.getElem?_eq_getElem (by omega)⟩
 have hH : flH h m g p = backTo h m.toNat ((flF g p (viewOf (mon h m.toNat))).getD (viewOf (mon h m.toNat))) := on_get hm
 have hsx := hs.2.1.2 _ (List.mem_of_getElem? hx)
 refine ⟨{ mon h m.toNat with Guests := ((flF g p (viewOf (mon h m.toNat))).getD (viewOf (mon h m.toNat))).Guests, Pending := ((flF g p (viewOf (mon h m.toNat))).getD (viewOf (mon h m.toNat))).Pending }, k, hm, ⟨h2.2.1, hg.1⟩, ?_, by rw [hH]; exact set_at hx, hk⟩
 rw [hH]
 exact sm_back hs hx (sm_getD (sm_view hsx) (sm_bflush (sm_view hsx)))
theorem hflush_no {h : VHost} {m g p : Int} (ho : (onMon h m (flF g p)).isSome = false) : hostFlush h m g p = none := by
 unfold hostFlush
 have e : onMon h m (fun b => bareFlush b g p) = none := by
  cases e : onMon h m (fun b => bareFlush b g p) with
  | none => rfl
  | some q => rw [show onMon h m (flF g p) = some q from e] at ho; cases ho
 rw [e]
 rfl
theorem hflush_yes {h : VHost} {m g p : Int} {x : VMon} {k : VKept} (ho : (onMon h m (flF g p)).isSome = true) (hf : Flu h m g p x k) :
  hostFlush h m g p = some { flH h m g p with Mons := (flH h m g p).Mons.set m.toNat (fillM x g.toNat (forget k p)), Buffer := flushPage (flH h m g p).Buffer (tagFor m g) p, IoBuffer := flushPage (flH h m g p).IoBuffer (tagFor m g) p } := by
 have e : onMon h m (fun b => bareFlush b g p) = some (flH h m g p) := by
  show onMon h m (flF g p) = some ((onMon h m (flF g p)).getD h)
  cases e : onMon h m (flF g p) with
  | none => rw [e] at ho; cases ho
  | some q => rfl
 have e3 : setTable (flH h m g p) m.toNat g.toNat (forget (kept (flH h m g p) m.toNat g.toNat) p) = { flH h m g p with Mons := (flH h m g p).Mons.set m.toNat (fillM x g.toNat (forget k p)) } := by
  unfold setTable setMon
  rw [kept_is hf.hx hf.hk, mon_is hf.hx]
  rfl
 unfold hostFlush
 rw [e]
 show some { setTable (flH h m g p) m.toNat g.toNat (forget (kept (flH h m g p) m.toNat g.toNat) p) with Buffer := flushPage (setTable (flH h m g p) m.toNat g.toNat (forget (kept (flH h m g p) m.toNat g.toNat) p)).Buffer (tagFor m g) p, IoBuffer := flushPage (setTable (flH h m g p) m.toNat g.toNat (forget (kept (flH h m g p) m.toNat g.toNat) p)).IoBuffer (tagFor m g) p } = _
 rw [e3]
def pokeOk (h : VHost) (m p c v : Int) : Bool := hasPage h m p && inR c 0 3 && inR v 0 99
theorem poke_refl {h : VHost} {m p c v : Int} : (reflH h m fun b => barePoke b p c v).getD h = h ∧ (reflH h m fun b => barePoke b p c v).isSome = pokeOk h m p c v := by
 unfold reflH pokeOk
 have e : hasPage h m p = (hasMon h m && inR p 0 7) := rfl
 rw [e]
 cases hm : hasMon h m with
 | false => exact ⟨rfl, rfl⟩
 | true =>
  obtain ⟨g1, g2, g3⟩ := seen_ok hm
  have hx := mon_is2 (hasMon_of hm).2
  rw [if_pos rfl]
  show ((barePoke (seenAs h m) p c v).map (backTo h m.toNat)).getD h = h ∧ ((barePoke (seenAs h m) p c v).map (backTo h m.toNat)).isSome = (true && inR p 0 7 && inR c 0 3 && inR v 0 99)
  unfold barePoke
  rw [g1]
  simp only [Bool.true_and]
  split
  ·rename_i hc
   rw [hc]
   refine ⟨?_, rfl⟩
   show setMon h m.toNat { mon h m.toNat with Guests := (seenAs h m).Guests, Pending := (seenAs h m).Pending } = h
   rw [g2, g3]
   unfold setMon
   show { h with Mons := h.Mons.set m.toNat (mon h m.toNat) } = h
   rw [lv_same hx]
  ·rename_i hc
   refine ⟨rfl, ?_⟩
   cases hq : (inR p 0 7 && inR c 0 3 && inR v 0 99) with
   | true => exact absurd hq hc
   | false => rfl
theorem impl_reflected_poke (h : VHost) (m p c v : Int) [Q (SmHost h)] : Fun Try.prog 23 [A (rHost h), I m, .fn 24 [.cptr [.v (.int .i64 p)], .cptr [.v (.int .i64 c)], .cptr [.v (.int .i64 v)]]] (RG [.a (rHost h), .c (.v (.bool (pokeOk h m p c v)))]) := by
 have h1 := impl_reflected_f3 h m (F := fun b => barePoke b p c v) (.mk rfl rfl rfl) (fun b qb => impl_HostPoke1_f b p c v) (fun b hb => sm_getD hb (sm_poke hb))
 rw [poke_refl.1, poke_refl.2] at h1
 exact h1
theorem pokeOk_on {h : VHost} {m p c v : Int} : pokeOk h m p c v = true ↔ hasPage h m p = true ∧ (0 ≤ c ∧ c ≤ 3) ∧ 0 ≤ v ∧ v ≤ 99 := by
 unfold pokeOk
 simp only [Bool.and_eq_true, decide_eq_true_eq, and_assoc]
theorem hpoke_no {h : VHost} {m p c v : Int} (ho : ¬ (hasPage h m p = true ∧ (0 ≤ c ∧ c ≤ 3) ∧ 0 ≤ v ∧ v ≤ 99)) : hostPoke h m p c v = none := by
 unfold hostPoke
 rw [if_neg]
 simp only [Bool.and_eq_true, decide_eq_true_eq, and_assoc]
 exact fun e => ho (by obtain ⟨e1, e2, e3, e4, e5⟩ := e; exact ⟨e1, ⟨e2, e3⟩, e4, e5⟩)
structure Pok (h : VHost) (m p : Int) (x : VMon) (z : VSlot) (x2 : VMon) (z2 : VSlot) : Prop where
 h0 : 0 ≤ m ∧ 0 ≤ p
 hs : Shp h
 ha : Alone h
 hx : h.Mons[m.toNat]? = some x
 hz : x.Outer[p.toNat]? = some z
 hzr : SlR z
 hs2 : Shp (mendP h m.toNat p.toNat 2)
 hx2 : (mendP h m.toNat p.toNat 2).Mons[m.toNat]? = some x2
 hz2 : x2.Outer[p.toNat]? = some z2
theorem pok_at {h : VHost} {m p : Int} (hh : SmHost h) (hp : hasPage h m p = true) : ∃ x z x2 z2, Pok h m p x z x2 z2 := by
 have hpg := hasPage_on.1 hp
 have hx := mon_is2 hpg.2.1
 have hmo := mon_outer (host_mon hpg.1 hx)
 have hs := shp_ok hpg.1 hh
 have ha := alone_ok hpg.1
 obtain ⟨z, hz⟩ : ∃ z, (mon h m.toNat).Outer[p.toNat]? = some z := ⟨_, List.getElem?_eq_getElem (by omega)⟩
 have hzr : SlR z := by
  rcases hmo.2.2.2.2.2 z (List.mem_of_getElem? hz) with rfl | h4
  ·exact ⟨by decide, by decide, fun _ => rfl⟩
  ·exact ⟨by omega, by omega, fun e => by omega⟩
 have hs2 := shp_mend (need := 2) hs ha hx hz
 obtain ⟨x2, hx2, _⟩ := same_mend (need := 2) hs ha hx hz m.toNat _ hx
 have h8 := (hs2.mon hx2).1
 obtain ⟨z2, hz2⟩ : ∃ z, x2.Outer[p.toNat]? = some z := ⟨_, List.getElem?_eq_getElem (by omega)⟩
 exact ⟨_, z, x2, z2, ⟨hpg.2.1.1, hpg.2.2.1⟩, hs, ha, hx, hz, hzr, hs2, hx2, hz2⟩
theorem hpoke_yes {h : VHost} {m p c v : Int} {x : VMon} {z : VSlot} {x2 : VMon} {z2 : VSlot} (ho : hasPage h m p = true ∧ (0 ≤ c ∧ c ≤ 3) ∧ 0 ≤ v ∧ v ≤ 99) (hk : Pok h m p x z x2 z2) :
  hostPoke h m p c v = some { mendP h m.toNat p.toNat 2 with Memory := withCell (mendP h m.toNat p.toNat 2).Memory z2.Page c v } := by
 unfold hostPoke
 rw [if_pos (by simp only [Bool.and_eq_true, decide_eq_true_eq, and_assoc]; obtain ⟨e1, ⟨e2, e3⟩, e4, e5⟩ := ho; exact ⟨e1, e2, e3, e4, e5⟩)]
 simp only
 rw [slot_is hk.hx2 hk.hz2]
theorem impl_HostPoke_f (h : VHost) (m : Int) (p : Int) (c : Int) (v : Int) [Q (SmHost h)] : Fun Try.prog 10 [A (rHost h), I m, I p, I c, I v] (RG [.a (rHost ((hostPoke h m p c v).getD h)), .c (.v (.bool (hostPoke h m p c v).isSome))]) := by
 refine Fun.w 43 Try.func10 fun w g0 _ => ?_
 refine callG (impl_reflected_poke h m p c v).k ?_
 refine cnd (fun hb => ?_) (fun hb => ?_)
 ·have hpk := pokeOk_on.1 (by assumption : pokeOk h m p c v = true)
  obtain ⟨x, z, x2, z2, hpo⟩ := pok_at (by assumption : Q (SmHost h)).h hpk.1
  have hp0 := hpo.h0
  have qm : Q (SmHost (mendP h m.toNat p.toNat 2)) := hpo.hs2.q
  have hpx := hpo.hx2
  have hpz := hpo.hz2
  have l1 := (List.getElem?_eq_some_iff.1 hpx).1
  have l2 := (List.getElem?_eq_some_iff.1 hpz).1
  have l3 : m.toNat < ((mendP h m.toNat p.toNat 2).Mons.map dMon).length := by rw [List.length_map]; exact l1
  have l4 : p.toNat < (x2.Outer.map dSlot).length := by rw [List.length_map]; exact l2
  refine callX 12 (impl_mend_r (mi := m) (pi := p) (row := rHost h) h m.toNat x p.toNat z 2 (by omega) (by omega) rfl (by decide) hpo.hs hpo.ha hpo.hx hpo.hz hpo.hzr) ?_
  refine regU [16] [(0, 0), (1, 0), (2, 0), (3, 0), (4, 0), (5, 0), (6, 0), (7, 0), (8, 0), (9, 0), (10, 0), (11, 0), (12, 0), (13, 0), (14, 1), (15, 0), (16, 1)] ?_
  first | refine ixm (by assumption) ?_ | refine bnd ?_ | refine bndi ?_ | refine ixkq (fun y30 hy30 qy30 ly30 => ?_) | refine ixiq (fun y30 hy30 qy30 ly30 => ?_)
  first | refine ixs ?_ | refine ixo (by assumption) ?_ | refine ixoq (fun z1 hz1 qz1 lz1 => ?_) | skip
  first | refine ixs ?_ | refine ixo (by assumption) ?_ | refine ixoq (fun z2 hz2 qz2 lz2 => ?_) | skip
  first | refine ixm (by assumption) ?_ | refine bnd ?_ | refine bndi ?_ | refine ixkq (fun y34 hy34 qy34 ly34 => ?_) | refine ixiq (fun y34 hy34 qy34 ly34 => ?_)
  first | refine ixs ?_ | refine ixo (by assumption) ?_ | refine ixoq (fun z3 hz3 qz3 lz3 => ?_) | skip
  first | refine ixs ?_ | refine ixo (by assumption) ?_ | refine ixoq (fun z4 hz4 qz4 lz4 => ?_) | skip
  refine callL (impl_WithCell_f (mendP h m.toNat p.toNat 2).Memory z2.Page c v).k ?_
  exact (by have ho1 : pokeOk h m p c v = true := (by assumption); rw [hpoke_yes hpk hpo]; rw [ho1]; rfl)
 ·exact (by have ho1 : pokeOk h m p c v = false := (by assumption); rw [hpoke_no (fun e => by rw [pokeOk_on.2 e] at ho1; cases ho1)]; rw [ho1]; rfl)
end Go.Proofs.Ytcmoifejjodgcaa.T

namespace Go.Proofs.Ytcmoifejjodgcaa.T
open Go
set_option linter.unusedVariables false
set_option linter.unusedSimpArgs false
set_option maxRecDepth 100000
set_option maxHeartbeats 8000000
abbrev ackF : VBare → Option VBare := fun b => (bareAck b).map Prod.fst
theorem sm_ackF {b : VBare} (hb : SmBare b) : SmBare ((ackF b).getD b) := by
 unfold ackF bareAck
 split
 ·cases takeIrq b.Pending with
  | none => exact hb
  | some q => exact hb
 ·exact hb
theorem ack_h {h : VHost} {m : Int} : ((hostAck h m).map fun q => q.1) = onMon h m ackF := by
 unfold hostAck onMon ackF
 cases hasMon h m with
 | false => rfl
 | true =>
  rw [if_pos rfl, if_pos rfl]
  cases bareAck (viewOf (mon h m.toNat)) <;> rfl
end Go.Proofs.Ytcmoifejjodgcaa.T

namespace Go.Proofs.Ytcmoifejjodgcaa.T
open Go
set_option linter.unusedVariables false
set_option linter.unusedSimpArgs false
set_option maxRecDepth 100000
set_option maxHeartbeats 8000000
end Go.Proofs.Ytcmoifejjodgcaa.T

namespace Go.Proofs.Ytcmoifejjodgcaa.T
open Go
set_option linter.unusedVariables false
set_option linter.unusedSimpArgs false
set_option maxRecDepth 100000
set_option maxHeartbeats 8000000
theorem put_entry_le {b : List VEntry} {e : VEntry} : (putEntry b e).length ≤ 6 := by
 unfold putEntry
 simp only [List.length_drop, List.length_append, List.length_cons, List.length_nil]
 omega
theorem sm_setBuf {h : VHost} {io : Bool} {b : List VEntry} (hh : SmHost h) (hb : b.length ≤ 6) : SmHost (setBuf h io b) := by
 have hb2 : b.length ≤ 1048576 := by omega
 cases io
 ·exact ⟨hh.1, hh.2.1, hb2, hh.2.2.2⟩
 ·exact ⟨hh.1, hh.2.1, hh.2.2.1, hb2⟩
theorem sm_find {h : VHost} {m g page need : Int} {io : Bool} (hh : SmHost h) : ∀ q, find h m g page need io = some q → SmHost q.1 := fun q hq => by
 by_cases hn : hasGuest h m g = true ∧ (need = 1 ∨ need = 2)
 ·cases hw : walkInner (guestOf h m.toNat g.toNat).Live page need with
  | none => rw [find_on hn, hw] at hq; cases hq
  | some p =>
   have h3 := hasGuest_on.1 hn.1
   have hy0 : (mon h m.toNat).Guests[g.toNat]? = some ((mon h m.toNat).Guests[g.toNat]'(by omega)) := List.getElem?_eq_getElem (by omega)
   have hok := host_mon h3.1 (mon_is2 h3.2.1)
   have hyo : guestOk (guestOf h m.toNat g.toNat) = true := by
    rw [guest_is (mon_is2 h3.2.1) hy0]
    simp only [monOk, Bool.and_eq_true] at hok
    exact List.all_eq_true.1 hok.1.1.2 _ (List.mem_of_getElem? hy0)
   have hp := walk_range hyo hw
   obtain ⟨x, z, k, y, hsk, _⟩ := seek_at (page := page) (need := need) hn.1 hh hp
   cases e : hitOf (hD h m p need) io m g page need with
   | some s =>
    have hq2 := find_on (page := page) (io := io) hn
    rw [hw] at hq2
    have h5 : find h m g page need io = some (hD h m p need, s.Host) := by
     rw [hq2]
     show some (findP _ _ _ _ _ _ _) = _
     rw [findP_hit h3.2.1.1 h3.2.2.1 e]
    rw [h5] at hq
    cases hq
    exact hsk.hs.1
   | none =>
    rw [fnd_miss hn hw e] at hq
    cases hq
    exact sm_setBuf (shp_filled (page := page) (need := need) hsk).1 put_entry_le
 ·rw [find_no hn] at hq; cases hq
theorem sm_find1 {h : VHost} {m g page need : Int} {io : Bool} (hh : SmHost h) : SmHost (((find h m g page need io).map fun q => q.1).getD h) := by
 cases e : find h m g page need io with
 | none => exact hh
 | some q => exact sm_find hh q e
instance (h : VHost) (m g page need : Int) (io : Bool) [hh : Q (SmHost h)] : Q (SmHost (((find h m g page need io).map fun q => q.1).getD h)) := ⟨sm_find1 hh.h⟩
end Go.Proofs.Ytcmoifejjodgcaa.T

namespace Go.Proofs.Ytcmoifejjodgcaa.T
open Go
set_option linter.unusedVariables false
set_option linter.unusedSimpArgs false
set_option maxRecDepth 100000
set_option maxHeartbeats 8000000
section
variable {α : Type} {f : α → α} {l : List α} {i : Nat} {x : α}
end
end Go.Proofs.Ytcmoifejjodgcaa.T

namespace Go.Proofs.Ytcmoifejjodgcaa.T
open Go
set_option linter.unusedVariables false
set_option linter.unusedSimpArgs false
theorem sm_noMon : SmMon noMon := ⟨by simp [SmSlotS], ⟨by simp, fun x hx => by cases hx⟩, by simp [SmBoolS], ⟨by simp, fun x hx => by cases hx⟩, by simp [SmIntS], ⟨by simp, fun x hx => by cases hx⟩⟩
theorem sm_mon {h : VHost} {m : Nat} (hh : SmHost h) : SmMon (mon h m) := by
 unfold mon
 cases e : h.Mons[m]? with
 | none => exact sm_noMon
 | some x => exact hh.2.1.2 x (List.mem_of_getElem? e)
theorem sm_guestOf {h : VHost} {m g : Nat} (hh : SmHost h) : SmGuest (guestOf h m g) := by
 unfold guestOf
 cases e : (mon h m).Guests[g]? with
 | none => exact sm_noGuest
 | some x => exact (sm_mon hh).2.2.2.1.2 x (List.mem_of_getElem? e)
theorem sm_gset {l : List VGuest} {g : Nat} {u : VGuest} (hl : SmGuestS l) (hu : SmGuest u) : SmGuestS (l.set g u) := ⟨by rw [List.length_set]; exact hl.1, fun x hx => by
 rcases List.mem_or_eq_of_mem_set hx with hx | rfl
 ·exact hl.2 x hx
 ·exact hu⟩
theorem sm_setGuest {h : VHost} {m g : Nat} {u : VGuest} (hh : SmHost h) (hu : SmGuest u) : SmHost (setGuest h m g u) := by
 have hx := sm_mon (m := m) hh
 exact sm_setM hh ⟨hx.1, hx.2.1, hx.2.2.1, sm_gset hx.2.2.2.1 hu, hx.2.2.2.2.1, hx.2.2.2.2.2⟩
theorem sm_touched {h : VHost} {m g : Nat} {u : VGuest} {w : Bool} (hh : SmHost h) (hu : SmGuest u) : SmHost (touchedH h m g u w) := by
 unfold touchedH
 cases e : find h m g (addrPage (address u)) (needOf w) false with
 | none => exact sm_setGuest hh hu
 | some q =>
  have h1 := sm_find hh q e
  obtain ⟨h2, p⟩ := q
  simp only
  split
  ·exact sm_setGuest ⟨sm_cell h1.1, h1.2⟩ hu
  ·exact sm_setGuest h1 (sm_loaded hu)
theorem sm_left {x : VMon} {g : Nat} {u : VGuest} {w : Int} (hx : SmMon x) (hu : SmGuest u) : SmMon (leftBy x g u w) := by
 have key : ∀ {y : VMon} {v : VGuest}, SmMon y → SmGuest v → SmMon { y with Guests := y.Guests.set g v } := fun {y v} hy hv => ⟨hy.1, hy.2.1, hy.2.2.1, sm_gset hy.2.2.2.1 hv, hy.2.2.2.2.1, hy.2.2.2.2.2⟩
 by_cases h1 : ownerX x u w = 1
 ·rw [lv_in h1]
  exact key hx (sm_trapped hu)
 ·by_cases h2 : w = 7
  ·rw [lv_halt h1 h2]
   exact key (lv_ownsm hx) hu
  ·rw [lv_out h1 h2]
   exact key (lv_outsm (lv_ownsm hx)) hu
theorem sm_stepH {h : VHost} {m g : Nat} {u : VGuest} (hh : SmHost h) (hu : SmGuest u) : SmHost (stepH h m g u) := by
 have qu : Q (SmGuest u) := ⟨hu⟩
 unfold stepH
 repeat' split
 ·exact sm_setGuest hh (inferInstance : Q (SmGuest (interrupted u))).h
 ·exact sm_setGuest hh (inferInstance : Q (SmGuest (plainly u))).h
 ·exact sm_touched hh hu
 ·exact sm_touched hh hu
 ·exact sm_setGuest hh hu
 ·exact sm_setM hh (sm_left (sm_mon hh) hu)
theorem sm_hostStep {h : VHost} {m g : Int} (hh : SmHost h) : SmHost ((hostStep h m g).getD h) := by
 unfold hostStep
 repeat' split
 ·exact hh
 ·exact sm_stepH hh (sm_guestOf hh)
 ·exact hh
theorem sm_onMon {h : VHost} {m : Int} {F : VBare → Option VBare} (hh : SmHost h) (hS : ∀ b, SmBare b → SmBare ((F b).getD b)) : SmHost ((onMon h m F).getD h) := by
 cases hm : hasMon h m with
 | false => rw [on_no hm]; exact hh
 | true =>
  rw [on_get hm]
  exact sm_back hh (mon_is2 (hasMon_of hm).2) (hS _ (sm_view (sm_mon hh)))
theorem sm_hostFlush {h : VHost} {m g p : Int} (hh : SmHost h) : SmHost ((hostFlush h m g p).getD h) := by
 cases ho : (onMon h m (flF g p)).isSome with
 | false => rw [hflush_no ho]; exact hh
 | true =>
  obtain ⟨x, k, hf⟩ := flu_at hh ho
  rw [hflush_yes ho hf]
  have h1 := hf.sm
  have hx := h1.2.1.2 x (List.mem_of_getElem? hf.hx)
  have hk := hx.2.2.2.2.2.2 k (List.mem_of_getElem? hf.hk)
  have h2 := sm_setM (m := m.toNat) h1 (y := fillM x g.toNat (forget k p)) ⟨hx.1, hx.2.1, hx.2.2.1, hx.2.2.2.1, hx.2.2.2.2.1, ⟨by show (x.Tables.set _ _).length ≤ _; rw [List.length_set]; exact hx.2.2.2.2.2.1, fun c hc => by
   rcases List.mem_or_eq_of_mem_set hc with hc | rfl
   ·exact hx.2.2.2.2.2.2 c hc
   ·unfold forget
    split
    ·exact ⟨by show (put _ _ _).length ≤ _; rw [put_len]; exact hk.1, by show (put _ _ _).length ≤ _; rw [put_len]; exact hk.2⟩
    ·exact hk⟩⟩
  exact ⟨h2.1, h2.2.1, Nat.le_trans (List.length_filter_le _ _) h1.2.2.1, Nat.le_trans (List.length_filter_le _ _) h1.2.2.2⟩
theorem sm_hostPoke {h : VHost} {m p c v : Int} (hh : SmHost h) : SmHost ((hostPoke h m p c v).getD h) := by
 by_cases ho : hasPage h m p = true ∧ (0 ≤ c ∧ c ≤ 3) ∧ 0 ≤ v ∧ v ≤ 99
 ·obtain ⟨x, z, x2, z2, hk⟩ := pok_at hh ho.1
  rw [hpoke_yes ho hk]
  exact ⟨sm_cell hk.hs2.1.1, hk.hs2.1.2⟩
 ·rw [hpoke_no ho]; exact hh
theorem sm_hostAck {h : VHost} {m : Int} (hh : SmHost h) : SmHost (((hostAck h m).map fun q => q.1).getD h) := by
 rw [ack_h]
 exact sm_onMon hh fun b hb => sm_ackF hb
theorem sm_hostDma {h : VHost} {m g a v : Int} (hh : SmHost h) : SmHost ((hostDma h m g a v).getD h) := by
 unfold hostDma
 split
 ·cases e : find h m g (addrPage a) 2 true with
  | none => exact hh
  | some q =>
   have h1 := sm_find hh q e
   exact ⟨sm_cell h1.1, h1.2⟩
 ·exact hh
theorem sm_hostRead {h : VHost} {m g a : Int} (hh : SmHost h) : SmHost (((hostRead h m g a).map fun q => q.1).getD h) := by
 unfold hostRead
 split
 ·cases e : find h m g (addrPage a) 1 true with
  | none => exact hh
  | some q => exact sm_find hh q e
 ·exact hh
theorem sm_pageIn {h : VHost} {m p : Int} (hh : SmHost h) : SmHost ((pageIn h m p).getD h) := by
 cases hp : hasPage h m p with
 | false => rw [pageIn_no hp]; exact hh
 | true =>
  obtain ⟨x, z, x2, z2, hk⟩ := pok_at hh hp
  by_cases h1 : z.Page = -1
  ·rw [pageIn_yes hp hk.hx hk.hz h1]
   exact (shp_fetch hk.hs hk.ha hk.hx hk.hz h1).1
  ·rw [pageIn_off hk.hx hk.hz h1]; exact hh
theorem sm_setTraps {h : VHost} {m t : Int} (hh : SmHost h) : SmHost ((setTraps h m t).getD h) := by
 unfold setTraps
 split
 ·exact sm_setM hh (sm_mon (m := m.toNat) hh)
 ·exact hh
theorem sm_cold {h : VHost} (hh : SmHost h) : SmHost (cold h) := by
 refine ⟨hh.1, ⟨by show (h.Mons.map coldM).length ≤ _; rw [List.length_map]; exact hh.2.1.1, fun x hx => ?_⟩, by show (0 : Nat) ≤ _; decide, by show (0 : Nat) ≤ _; decide⟩
 obtain ⟨y, hy, rfl⟩ := List.mem_map.1 hx
 have h1 := hh.2.1.2 y hy
 refine ⟨h1.1, h1.2.1, h1.2.2.1, h1.2.2.2.1, h1.2.2.2.2.1, ⟨by show (y.Tables.map forgetAll).length ≤ _; rw [List.length_map]; exact h1.2.2.2.2.2.1, fun c hc => ?_⟩⟩
 obtain ⟨k, hk, rfl⟩ := List.mem_map.1 hc
 exact lessBy_sm _ (h1.2.2.2.2.2.2 k hk)
theorem yieldsN_eq {x : VHost} {n : Int} {q : Option (VHost × Int)} : yieldsN x n q = ((q.map fun p => p.1).getD x, ⟨q.isSome, (q.map fun p => p.2).getD n⟩) := by cases q <;> rfl
theorem ha_1 {h : VHost} {a : VAct} (hk : a.Kind = 1) : hostAct h a = yields h (hostStep h a.M a.G) := by unfold hostAct; rw [if_pos hk]
theorem ha_2 {h : VHost} {a : VAct} (hk : a.Kind = 2) : hostAct h a = yields h (onMon h a.M fun b => bareSet b a.G a.X ⟨a.Y, a.Z⟩) := by unfold hostAct; rw [if_neg (by omega), if_pos hk]
theorem ha_3 {h : VHost} {a : VAct} (hk : a.Kind = 3) : hostAct h a = yields h (hostFlush h a.M a.G a.X) := by unfold hostAct; rw [if_neg (by omega), if_neg (by omega), if_pos hk]
theorem ha_4 {h : VHost} {a : VAct} (hk : a.Kind = 4) : hostAct h a = yields h (onMon h a.M fun b => bareAnswer b a.G a.X) := by unfold hostAct; rw [if_neg (by omega), if_neg (by omega), if_neg (by omega), if_pos hk]
theorem ha_5 {h : VHost} {a : VAct} (hk : a.Kind = 5) : hostAct h a = yields h (onMon h a.M fun b => bareResume b a.G) := by unfold hostAct; rw [if_neg (by omega), if_neg (by omega), if_neg (by omega), if_neg (by omega), if_pos hk]
theorem ha_6 {h : VHost} {a : VAct} (hk : a.Kind = 6) : hostAct h a = yields h (onMon h a.M fun b => bareInject b a.G a.X) := by unfold hostAct; rw [if_neg (by omega), if_neg (by omega), if_neg (by omega), if_neg (by omega), if_neg (by omega), if_pos hk]
theorem ha_7 {h : VHost} {a : VAct} (hk : a.Kind = 7) : hostAct h a = yields h (onMon h a.M fun b => bareCtl b a.G (ctlOf a)) := by unfold hostAct; rw [if_neg (by omega), if_neg (by omega), if_neg (by omega), if_neg (by omega), if_neg (by omega), if_neg (by omega), if_pos hk]
theorem ha_8 {h : VHost} {a : VAct} (hk : a.Kind = 8) : hostAct h a = yields h (hostPoke h a.M a.X a.Y a.Z) := by unfold hostAct; rw [if_neg (by omega), if_neg (by omega), if_neg (by omega), if_neg (by omega), if_neg (by omega), if_neg (by omega), if_neg (by omega), if_pos hk]
theorem ha_9 {h : VHost} {a : VAct} (hk : a.Kind = 9) : hostAct h a = yields h (onMon h a.M fun b => barePost b a.X) := by unfold hostAct; rw [if_neg (by omega), if_neg (by omega), if_neg (by omega), if_neg (by omega), if_neg (by omega), if_neg (by omega), if_neg (by omega), if_neg (by omega), if_pos hk]
theorem ha_10 {h : VHost} {a : VAct} (hk : a.Kind = 10) : hostAct h a = (((hostAck h a.M).map fun p => p.1).getD h, ⟨(hostAck h a.M).isSome, ((hostAck h a.M).map fun p => p.2).getD (-1)⟩) := by unfold hostAct; rw [if_neg (by omega), if_neg (by omega), if_neg (by omega), if_neg (by omega), if_neg (by omega), if_neg (by omega), if_neg (by omega), if_neg (by omega), if_neg (by omega), if_pos hk, yieldsN_eq]
theorem ha_11 {h : VHost} {a : VAct} (hk : a.Kind = 11) : hostAct h a = yields h (hostDma h a.M a.G a.X a.Y) := by unfold hostAct; rw [if_neg (by omega), if_neg (by omega), if_neg (by omega), if_neg (by omega), if_neg (by omega), if_neg (by omega), if_neg (by omega), if_neg (by omega), if_neg (by omega), if_neg (by omega), if_pos hk]
theorem ha_12 {h : VHost} {a : VAct} (hk : a.Kind = 12) : hostAct h a = (((hostRead h a.M a.G a.X).map fun p => p.1).getD h, ⟨(hostRead h a.M a.G a.X).isSome, ((hostRead h a.M a.G a.X).map fun p => p.2).getD 0⟩) := by unfold hostAct; rw [if_neg (by omega), if_neg (by omega), if_neg (by omega), if_neg (by omega), if_neg (by omega), if_neg (by omega), if_neg (by omega), if_neg (by omega), if_neg (by omega), if_neg (by omega), if_neg (by omega), if_pos hk, yieldsN_eq]
theorem ha_13 {h : VHost} {a : VAct} (hk : a.Kind = 13) : hostAct h a = yields h (pageOut h a.M a.X) := by unfold hostAct; rw [if_neg (by omega), if_neg (by omega), if_neg (by omega), if_neg (by omega), if_neg (by omega), if_neg (by omega), if_neg (by omega), if_neg (by omega), if_neg (by omega), if_neg (by omega), if_neg (by omega), if_neg (by omega), if_pos hk]
theorem ha_14 {h : VHost} {a : VAct} (hk : a.Kind = 14) : hostAct h a = yields h (pageIn h a.M a.X) := by unfold hostAct; rw [if_neg (by omega), if_neg (by omega), if_neg (by omega), if_neg (by omega), if_neg (by omega), if_neg (by omega), if_neg (by omega), if_neg (by omega), if_neg (by omega), if_neg (by omega), if_neg (by omega), if_neg (by omega), if_neg (by omega), if_pos hk]
theorem ha_15 {h : VHost} {a : VAct} (hk : a.Kind = 15) : hostAct h a = yields h (guard h a.M a.X) := by unfold hostAct; rw [if_neg (by omega), if_neg (by omega), if_neg (by omega), if_neg (by omega), if_neg (by omega), if_neg (by omega), if_neg (by omega), if_neg (by omega), if_neg (by omega), if_neg (by omega), if_neg (by omega), if_neg (by omega), if_neg (by omega), if_neg (by omega), if_pos hk]
theorem ha_16 {h : VHost} {a : VAct} (hk : a.Kind = 16) : hostAct h a = yields h (setTraps h a.M a.X) := by unfold hostAct; rw [if_neg (by omega), if_neg (by omega), if_neg (by omega), if_neg (by omega), if_neg (by omega), if_neg (by omega), if_neg (by omega), if_neg (by omega), if_neg (by omega), if_neg (by omega), if_neg (by omega), if_neg (by omega), if_neg (by omega), if_neg (by omega), if_neg (by omega), if_pos hk]
theorem ha_17 {h : VHost} {a : VAct} (hk : a.Kind = 17) : hostAct h a = (cold h, ⟨true, 0⟩) := by unfold hostAct; rw [if_neg (by omega), if_neg (by omega), if_neg (by omega), if_neg (by omega), if_neg (by omega), if_neg (by omega), if_neg (by omega), if_neg (by omega), if_neg (by omega), if_neg (by omega), if_neg (by omega), if_neg (by omega), if_neg (by omega), if_neg (by omega), if_neg (by omega), if_neg (by omega), if_pos hk]
theorem ha_0 {h : VHost} {a : VAct} (hk : ¬ (1 ≤ a.Kind ∧ a.Kind ≤ 17)) : hostAct h a = (h, ⟨false, 0⟩) := by unfold hostAct; rw [if_neg (by omega), if_neg (by omega), if_neg (by omega), if_neg (by omega), if_neg (by omega), if_neg (by omega), if_neg (by omega), if_neg (by omega), if_neg (by omega), if_neg (by omega), if_neg (by omega), if_neg (by omega), if_neg (by omega), if_neg (by omega), if_neg (by omega), if_neg (by omega), if_neg (by omega)]
theorem sm_hostAct {h : VHost} {a : VAct} (hh : SmHost h) : SmHost (hostAct h a).1 := by
 by_cases hk : 1 ≤ a.Kind ∧ a.Kind ≤ 17
 ·have hc : a.Kind = 1 ∨ a.Kind = 2 ∨ a.Kind = 3 ∨ a.Kind = 4 ∨ a.Kind = 5 ∨ a.Kind = 6 ∨ a.Kind = 7 ∨ a.Kind = 8 ∨ a.Kind = 9 ∨ a.Kind = 10 ∨ a.Kind = 11 ∨ a.Kind = 12 ∨ a.Kind = 13 ∨ a.Kind = 14 ∨ a.Kind = 15 ∨ a.Kind = 16 ∨ a.Kind = 17 := by omega
  rcases hc with e | e | e | e | e | e | e | e | e | e | e | e | e | e | e | e | e
  ·rw [ha_1 e]; exact sm_hostStep hh
  ·rw [ha_2 e]; exact sm_onMon hh fun b hb => sm_getD hb (sm_set hb)
  ·rw [ha_3 e]; exact sm_hostFlush hh
  ·rw [ha_4 e]; exact sm_onMon hh fun b hb => sm_getD hb (sm_answer hb)
  ·rw [ha_5 e]; exact sm_onMon hh fun b hb => sm_getD hb (sm_resume hb)
  ·rw [ha_6 e]; exact sm_onMon hh fun b hb => sm_getD hb (sm_inject hb)
  ·rw [ha_7 e]; exact sm_onMon hh fun b hb => sm_getD hb (sm_ctl hb)
  ·rw [ha_8 e]; exact sm_hostPoke hh
  ·rw [ha_9 e]; exact sm_onMon hh fun b hb => sm_getD hb (sm_post hb)
  ·rw [ha_10 e]; exact sm_hostAck hh
  ·rw [ha_11 e]; exact sm_hostDma hh
  ·rw [ha_12 e]; exact sm_hostRead hh
  ·rw [ha_13 e]; exact sm_pageOut hh
  ·rw [ha_14 e]; exact sm_pageIn hh
  ·rw [ha_15 e]; exact sm_guard hh
  ·rw [ha_16 e]; exact sm_setTraps hh
  ·rw [ha_17 e]; exact sm_cold hh
 ·rw [ha_0 hk]; exact hh
instance (h : VHost) (a : VAct) [hh : Q (SmHost h)] : Q (SmHost (hostAct h a).1) := ⟨sm_hostAct hh.h⟩
end Go.Proofs.Ytcmoifejjodgcaa.T

namespace Go.Proofs.Ytcmoifejjodgcaa.T
open Go
set_option linter.unusedVariables false
set_option linter.unusedSimpArgs false
set_option maxRecDepth 100000
set_option maxHeartbeats 8000000
instance (s : VSaved) (n : Nat) : LenX (beginTo s n) n := ⟨by simp [beginTo]⟩
end Go.Proofs.Ytcmoifejjodgcaa.T

namespace Go.Proofs.Ytcmoifejjodgcaa.T
open Go
set_option linter.unusedVariables false
set_option linter.unusedSimpArgs false
set_option maxRecDepth 100000
set_option maxHeartbeats 8000000
instance wlBare (xs : List VBare) : WL (xs.map dBare) := ⟨fun d hd => by obtain ⟨x, _, rfl⟩ := List.mem_map.1 hd; exact inferInstanceAs (WR (dBare x))⟩
theorem sm_memNew (n : Nat) (h : n ≤ 1048576) : SmIntSS (memNew n) := ⟨by simp [memNew, h], fun x hx => by rw [List.eq_of_mem_replicate hx]; simp [SmIntS]⟩
end Go.Proofs.Ytcmoifejjodgcaa.T

