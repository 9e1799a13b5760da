
import Derived.Test.YteelmdpahpggkaaGreatObp
namespace Go.Proofs.YteelmdpahpggkaaGreat.T
open Go
set_option linter.unusedVariables false
set_option linter.unusedSimpArgs false
set_option maxRecDepth 100000
set_option maxHeartbeats 8000000
theorem sm_forgetUses {k : VKept} {t : List VSlot} {p : Int} (h : SmKept k) : SmKept (forgetUses k t p) := lessBy_sm _ h
theorem sm_less {x : VMon} {p : Int} (h : SmMon x) : SmKeptS (lessKept x p) := by
 refine ⟨by have := h.2.2.2.2.2.1; simp only [lessKept, List.length_zipWith]; omega, fun y hy => ?_⟩
 obtain ⟨j, hj⟩ := List.getElem?_of_mem hy
 unfold lessKept at hj
 rw [List.getElem?_zipWith] at hj
 cases h1 : x.Tables[j]? with
 | none => rw [h1] at hj; simp at hj
 | some t =>
  cases h2 : x.Guests[j]? with
  | none => rw [h1, h2] at hj; simp at hj
  | some g =>
   rw [h1, h2] at hj
   simp only [Option.some.injEq] at hj
   rw [← hj]
   exact sm_forgetUses (h.2.2.2.2.2.2 t (List.mem_of_getElem? h1))
theorem sm_flush {b : List VEntry} {host : Int} (h : SmEntryS b) : SmEntryS (flushHost b host) := Nat.le_trans flush_len h
theorem sm_spoilt {h : VHost} {m : Nat} {x : VMon} {p : Int} {s : VSlot} (hh : SmHost h) (hx : SmMon x) : SmHost (spoilt h m x p s) := by
 refine ⟨hh.1, ⟨by show (h.Mons.set _ _).length ≤ _; rw [List.length_set]; exact hh.2.1.1, fun y hy => ?_⟩, ?_, ?_⟩
 ·rcases List.mem_or_eq_of_mem_set hy with hy | rfl
  ·exact hh.2.1.2 y hy
  ·exact ⟨hx.1, hx.2.1, hx.2.2.1, hx.2.2.2.1, hx.2.2.2.2.1, sm_less hx⟩
 ·show SmEntryS (if _ then _ else _)
  split
  ·exact hh.2.2.1
  ·exact sm_flush hh.2.2.1
 ·show SmEntryS (if _ then _ else _)
  split
  ·exact hh.2.2.2
  ·exact sm_flush hh.2.2.2
theorem pageOut_cases {h : VHost} {m p : Int} : pageOut h m p = none ∨ ∃ x z, h.Mons[m.toNat]? = some x ∧ x.Outer[p.toNat]? = some z ∧ pageOut h m p = some (spoilt (hostSent h m.toNat x p.toNat z) m.toNat (monSent h x p.toNat z) p.toNat z) := by
 cases hp : hasPage h m p with
 | false => exact .inl (pageOut_no hp)
 | true =>
  have hpg := hasPage_on.1 hp
  have hx : h.Mons[m.toNat]? = some (h.Mons[m.toNat]'(by omega)) := List.getElem?_eq_getElem (by omega)
  have hmo := mon_outer (host_mon hpg.1 hx)
  have hz : (h.Mons[m.toNat]'(by omega)).Outer[p.toNat]? = some ((h.Mons[m.toNat]'(by omega)).Outer[p.toNat]'(by omega)) := List.getElem?_eq_getElem (by omega)
  rcases Decidable.em (((h.Mons[m.toNat]'(by omega)).Outer[p.toNat]'(by omega)).Page = -1) with h1 | h1
  ·exact .inl (pageOut_off hx hz h1)
  ·exact .inr ⟨_, _, hx, hz, by rw [sent_eq hx hz]; exact pageOut_yes hp hx hz h1⟩
theorem sm_pageOut {h : VHost} {m p : Int} (hh : SmHost h) : SmHost ((pageOut h m p).getD h) := by
 rcases @pageOut_cases h m p with h1 | ⟨x, z, hx, hz, h1⟩
 ·rw [h1]; exact hh
 ·rw [h1]
  have hm := hh.2.1.2 x (List.mem_of_getElem? hx)
  exact sm_spoilt (sm_hostSent hh hm) (sm_monSent hh hm)
theorem len_pageOut {h : VHost} {m p : Int} : ((pageOut h m p).getD h).Mons.length = h.Mons.length := by
 rcases @pageOut_cases h m p with h1 | ⟨x, z, hx, hz, h1⟩
 ·rw [h1]; rfl
 ·rw [h1]
  simp [spoilt, hostSent]
theorem sm_outTo {h : VHost} {m : Int} (hh : SmHost h) : ∀ n, SmHost (outTo h m n)
 | 0 => hh
 | n + 1 => sm_pageOut (sm_outTo hh n)
theorem len_outTo {h : VHost} {m : Int} : ∀ n, (outTo h m n).Mons.length = h.Mons.length
 | 0 => rfl
 | n + 1 => by rw [outTo, len_pageOut, len_outTo n]
instance (h : VHost) (m : Int) (n : Nat) [hh : Q (SmHost h)] : Q (SmHost (outTo h m n)) := ⟨sm_outTo hh.h n⟩
def haltG (g : VGuest) : VGuest := { g with Halted := true }
def haltTo (x : VMon) (k : Nat) : VMon := { x with Guests := (x.Guests.take k).map haltG ++ x.Guests.drop k }
theorem haltTo_zero {x : VMon} : haltTo x 0 = x := by simp [haltTo]
theorem haltTo_len {x : VMon} {k : Nat} : (haltTo x k).Guests.length = x.Guests.length := by simp [haltTo]; omega
theorem haltTo_get {x : VMon} {k : Nat} {g : VGuest} (hg : x.Guests[k]? = some g) : (haltTo x k).Guests[k]? = some g := by
 have hk := (List.getElem?_eq_some_iff.1 hg).1
 show ((x.Guests.take k).map haltG ++ x.Guests.drop k)[k]? = some g
 rw [List.getElem?_append_right (by simp; omega), List.length_map, List.length_take, Nat.min_eq_left (by omega), Nat.sub_self, List.getElem?_drop]
 exact hg
theorem haltTo_step {x : VMon} {k : Nat} {g : VGuest} (hg : x.Guests[k]? = some g) : (haltTo x (k + 1)).Guests = (haltTo x k).Guests.set k (haltG g) := by
 have hk := (List.getElem?_eq_some_iff.1 hg).1
 have hl : ((x.Guests.take k).map haltG).length = k := by simp; omega
 show (x.Guests.take (k + 1)).map haltG ++ x.Guests.drop (k + 1) = ((x.Guests.take k).map haltG ++ x.Guests.drop k).set k (haltG g)
 rw [List.take_add_one, hg, List.set_append_right _ _ (by omega), hl, Nat.sub_self, List.drop_eq_getElem_cons hk, List.set_cons_zero, List.map_append, List.append_assoc]
 rfl
theorem halt_next {l : List VMon} {m : Nat} {x : VMon} {k : Nat} {g : VGuest} (hg : x.Guests[k]? = some g) :
  (l.set m (haltTo x (k + 1))).map dMon = ((l.set m (haltTo x k)).map dMon).set m (.st [.sl 2 ((haltTo x k).Outer.map dSlot), .sl 1 ((haltTo x k).Out.map dIntS), .sl 1 ((haltTo x k).Dirty.map dBool), .sl 15 (((haltTo x k).Guests.map dGuest).set k (dGuest (haltG g))), .sl 1 ((haltTo x k).Outs.map dInt),
   .v (.int .i64 (haltTo x k).Pending), .v (.int .i64 (haltTo x k).Traps), .sl 2 ((haltTo x k).Tables.map dKept), .v (.int .i64 (haltTo x k).Own)]) := by
 have e : dMon (haltTo x (k + 1)) = .st [.sl 2 ((haltTo x k).Outer.map dSlot), .sl 1 ((haltTo x k).Out.map dIntS), .sl 1 ((haltTo x k).Dirty.map dBool), .sl 15 (((haltTo x k).Guests.map dGuest).set k (dGuest (haltG g))), .sl 1 ((haltTo x k).Outs.map dInt),
   .v (.int .i64 (haltTo x k).Pending), .v (.int .i64 (haltTo x k).Traps), .sl 2 ((haltTo x k).Tables.map dKept), .v (.int .i64 (haltTo x k).Own)] := by
  rw [← List.map_set, ← haltTo_step hg]
  rfl
 rw [List.map_set, List.map_set, List.set_set, e]
theorem haltAll_row {h : VHost} {m : Nat} {x : VMon} {k : Nat} (hx : h.Mons[m]? = some x) (hk : k = x.Guests.length) : rHost (haltAll h m) = [.sl 1 (h.Memory.map dIntS), .sl 9 ((h.Mons.set m (haltTo x k)).map dMon), .sl 4 (h.Buffer.map dEntry), .sl 4 (h.IoBuffer.map dEntry)] := by
 have e : haltTo x k = { x with Guests := x.Guests.map haltG } := by
  subst hk
  simp [haltTo]
 unfold haltAll setMon
 rw [mon_is hx, e]
 rfl
theorem fence_no {h : VHost} {m : Int} (hm : hasMon h m = false) : fence h m = none := by unfold fence; rw [hm]; rfl
theorem fence_yes {h : VHost} {m : Int} (hm : hasMon h m = true) : fence h m = some (haltAll (outTo h m 8) m.toNat) := by unfold fence; rw [hm]; rfl
theorem hasMon_no {h : VHost} {m : Int} (hm : hostOk h = false ∨ ¬ (0 ≤ m ∧ m < h.Mons.length)) : hasMon h m = false := by
 rw [Bool.eq_false_iff]
 intro e
 have h1 := hasMon_on.1 e
 rcases hm with hm | hm
 ·rw [h1.1] at hm; cases hm
 ·exact hm h1.2
theorem impl_Fence_f (h : VHost) (m : Int) [Q (SmHost h)] : Fun Tryz.prog 38 [A (rHost h), I m] (RG [.a (rHost ((fence h m).getD h)), .c (.v (.bool (fence h m).isSome))]) := by
 refine Fun.w 55 Tryz.func38 fun w g0 hM => ?_
 have hl0 := hM.1.2.1.map
 refine callG (impl_copyHost_f h).k ?_
 refine callP (impl_HostOk_f h).k ?_
 refine cnd (fun hg3 => ?_) (fun hg3 => ?_)
 ·exact (by rw [fence_no (hasMon_no (by first | (left; assumption) | (right; omega)))]; rfl)
 ·refine len ?_
  refine callP (impl_has_f _ _).k ?_
  refine cnd (fun hb => ?_) (fun hb => ?_)
  ·exact (by rw [fence_no (hasMon_no (by first | (left; assumption) | (right; omega)))]; rfl)
  ·have hmy : hasMon h m = true := hasMon_on.2 ⟨by assumption, by omega, by omega⟩
   refine loopA [1, 4, 5, 6] [] [6, 10] (fun (i : Nat) => [.set 7 (I i)]) (fun (i : Nat) => [(6, ⟨true, [.own (.sl 1 ((outTo h m i).Memory.map dIntS)), .own (.sl 9 ((outTo h m i).Mons.map dMon)), .own (.sl 4 ((outTo h m i).Buffer.map dEntry)), .own (.sl 4 ((outTo h m i).IoBuffer.map dEntry))]⟩)]) (fun (i : Nat) => i ≤ 8) (fun (i : Nat) => 8 - i) (0) (Nat.zero_le _) ?_
   refine ⟨hda, fun i hyp N1 hN1 => ?_⟩
   have hyp : i ≤ 8 := hyp
   refine cnd (fun hb2 => ?_) (fun hb2 => ?_)
   ·refine callG (impl_PageOut_f (outTo h m i) m i).k ?_
    refine rng ?_
    refine hN1 _ _ _ ?_
    refine nxa (i + 1) (by omega)
   ·refine hN1 _ _ _ ?_
    have hmm := hasMon_on.1 hmy
    have hol := len_outTo (h := h) (m := m) i
    obtain ⟨x, hx⟩ : ∃ x, (outTo h m i).Mons[m.toNat]? = some x := ⟨_, List.getElem?_eq_getElem (by omega)⟩
    have qx : Q (SmMon x) := ⟨ElS.h x (List.mem_of_getElem? hx)⟩
    have hxl := (inferInstance : LenX x.Guests 1048576).h
    have hi8 : i = 8 := by omega
    first | refine ixm (by assumption) ?_ | refine bnd ?_ | refine bndi ?_ | refine ixkq (fun y37 hy37 qy37 ly37 => ?_) | refine ixiq (fun y37 hy37 qy37 ly37 => ?_)
    first | refine ixs ?_ | refine ixo (by assumption) ?_ | refine ixoq (fun z1 hz1 qz1 lz1 => ?_) | skip
    first | refine ixs ?_ | refine ixo (by assumption) ?_ | refine ixoq (fun z2 hz2 qz2 lz2 => ?_) | skip
    refine len ?_
    refine loopA [1, 4, 5, 6, 40] [] [6] (fun (k : Nat) => [.set 41 (I k)]) (fun (k : Nat) => [(6, ⟨true, [.own (.sl 1 ((outTo h m i).Memory.map dIntS)), .own (.sl 9 (((outTo h m i).Mons.set m.toNat (haltTo x k)).map dMon)), .own (.sl 4 ((outTo h m i).Buffer.map dEntry)), .own (.sl 4 ((outTo h m i).IoBuffer.map dEntry))]⟩)]) (fun (k : Nat) => k ≤ x.Guests.length) (fun (k : Nat) => x.Guests.length - k) (0) (Nat.zero_le _) ?_
    refine ⟨(hda (by repeat' first | exact rfl | refine And.intro ?_ ?_ | exact True.intro | (refine eqS ?_; rw [haltTo_zero, set_same hx]; done))), fun k hypk N2 hN2 => ?_⟩
    have hypk : k ≤ x.Guests.length := hypk
    have hm2 := set_at (y := haltTo x k) hx
    have hgl : (haltTo x k).Guests.length = x.Guests.length := haltTo_len
    refine cnd (fun hb3 => ?_) (fun hb3 => ?_)
    ·obtain ⟨g, hg⟩ : ∃ g, x.Guests[k]? = some g := ⟨_, List.getElem?_eq_getElem (by omega)⟩
     have hg2 := haltTo_get hg
     first | refine ixm (by assumption) ?_ | refine bnd ?_ | refine bndi ?_ | refine ixkq (fun y47 hy47 qy47 ly47 => ?_) | refine ixiq (fun y47 hy47 qy47 ly47 => ?_)
     first | refine ixs ?_ | refine ixo (by assumption) ?_ | refine ixoq (fun z3 hz3 qz3 lz3 => ?_) | skip
     first | refine ixs ?_ | refine ixo (by assumption) ?_ | refine ixoq (fun z4 hz4 qz4 lz4 => ?_) | skip
     first | refine ixm (by assumption) ?_ | refine bnd ?_ | refine bndi ?_ | refine ixkq (fun y51 hy51 qy51 ly51 => ?_) | refine ixiq (fun y51 hy51 qy51 ly51 => ?_)
     first | refine ixs ?_ | refine ixo (by assumption) ?_ | refine ixoq (fun z5 hz5 qz5 lz5 => ?_) | skip
     first | refine ixs ?_ | refine ixo (by assumption) ?_ | refine ixoq (fun z6 hz6 qz6 lz6 => ?_) | skip
     refine rng ?_
     refine hN2 _ _ _ ?_
     refine nxa (k + 1) (by omega) (by repeat' first | exact rfl | refine And.intro ?_ ?_ | exact True.intro | (refine eqS ?_; (rw [halt_next hg]; rfl)))
    ·refine hN2 _ _ _ ?_
     exact (by rw [fence_yes hmy]; subst hi8; show _ = resG [RD.a (rHost (haltAll (outTo h m 8) m.toNat)), _]; rw [haltAll_row (k := k) hx (by omega)]; rfl)
theorem spec_Fence_f (h : VHost) (m : Int) [Q (SmHost h)] : Fun Tryz.prog 37 [A (rHost h), I m] (RG [.a (rHost ((fence h m).getD h)), .c (.v (.bool (fence h m).isSome))]) := by
 refine Fun.w 47 Tryz.func37 fun w g0 hM => ?_
 have hl0 := hM.1.2.1.map
 refine callG (spec_l21Copy_f h).k ?_
 refine callP (spec_l25Mon_f h m).k ?_
 refine cnd (fun hb => ?_) (fun hb => ?_)
 ·exact (by rw [fence_no (by assumption)]; rfl)
 ·have hmy : hasMon h m = true := by assumption
  refine loopA [1, 2, 4, 5] [] [2, 9] (fun (i : Nat) => [.set 6 (I i)]) (fun (i : Nat) => [(2, ⟨true, [.own (.sl 1 ((outTo h m i).Memory.map dIntS)), .own (.sl 9 ((outTo h m i).Mons.map dMon)), .own (.sl 4 ((outTo h m i).Buffer.map dEntry)), .own (.sl 4 ((outTo h m i).IoBuffer.map dEntry))]⟩)]) (fun (i : Nat) => i ≤ 8) (fun (i : Nat) => 8 - i) (0) (Nat.zero_le _) ?_
  refine ⟨hda, fun i hyp N1 hN1 => ?_⟩
  have hyp : i ≤ 8 := hyp
  refine cnd (fun hb2 => ?_) (fun hb2 => ?_)
  ·refine callG (spec_PageOut_f (outTo h m i) m i).k ?_
   refine rng ?_
   refine hN1 _ _ _ ?_
   refine nxa (i + 1) (by omega)
  ·refine hN1 _ _ _ ?_
   have hmm := hasMon_on.1 hmy
   have hol := len_outTo (h := h) (m := m) i
   obtain ⟨x, hx⟩ : ∃ x, (outTo h m i).Mons[m.toNat]? = some x := ⟨_, List.getElem?_eq_getElem (by omega)⟩
   have qx : Q (SmMon x) := ⟨ElS.h x (List.mem_of_getElem? hx)⟩
   have hxl := (inferInstance : LenX x.Guests 1048576).h
   have hi8 : i = 8 := by omega
   refine loopA [1, 2, 4, 5] [] [2] (fun (k : Nat) => [.set 7 (I k)]) (fun (k : Nat) => [(2, ⟨true, [.own (.sl 1 ((outTo h m i).Memory.map dIntS)), .own (.sl 9 (((outTo h m i).Mons.set m.toNat (haltTo x k)).map dMon)), .own (.sl 4 ((outTo h m i).Buffer.map dEntry)), .own (.sl 4 ((outTo h m i).IoBuffer.map dEntry))]⟩)]) (fun (k : Nat) => k ≤ x.Guests.length) (fun (k : Nat) => x.Guests.length - k) (0) (Nat.zero_le _) ?_
   refine ⟨(hda (by repeat' first | exact rfl | refine And.intro ?_ ?_ | exact True.intro | (refine eqS ?_; rw [haltTo_zero, set_same hx]; done))), fun k hypk N2 hN2 => ?_⟩
   have hypk : k ≤ x.Guests.length := hypk
   have hm2 := set_at (y := haltTo x k) hx
   have hgl : (haltTo x k).Guests.length = x.Guests.length := haltTo_len
   first | refine ixm (by assumption) ?_ | refine bnd ?_ | refine bndi ?_ | refine ixkq (fun y30 hy30 qy30 ly30 => ?_) | refine ixiq (fun y30 hy30 qy30 ly30 => ?_)
   first | refine ixs ?_ | refine ixo (by assumption) ?_ | refine ixoq (fun z1 hz1 qz1 lz1 => ?_) | skip
   first | refine ixs ?_ | refine ixo (by assumption) ?_ | refine ixoq (fun z2 hz2 qz2 lz2 => ?_) | skip
   refine len ?_
   refine cnd (fun hb3 => ?_) (fun hb3 => ?_)
   ·obtain ⟨g, hg⟩ : ∃ g, x.Guests[k]? = some g := ⟨_, List.getElem?_eq_getElem (by omega)⟩
    have hg2 := haltTo_get hg
    first | refine ixm (by assumption) ?_ | refine bnd ?_ | refine bndi ?_ | refine ixkq (fun y40 hy40 qy40 ly40 => ?_) | refine ixiq (fun y40 hy40 qy40 ly40 => ?_)
    first | refine ixs ?_ | refine ixo (by assumption) ?_ | refine ixoq (fun z3 hz3 qz3 lz3 => ?_) | skip
    first | refine ixs ?_ | refine ixo (by assumption) ?_ | refine ixoq (fun z4 hz4 qz4 lz4 => ?_) | skip
    first | refine ixm (by assumption) ?_ | refine bnd ?_ | refine bndi ?_ | refine ixkq (fun y44 hy44 qy44 ly44 => ?_) | refine ixiq (fun y44 hy44 qy44 ly44 => ?_)
    first | refine ixs ?_ | refine ixo (by assumption) ?_ | refine ixoq (fun z5 hz5 qz5 lz5 => ?_) | skip
    first | refine ixs ?_ | refine ixo (by assumption) ?_ | refine ixoq (fun z6 hz6 qz6 lz6 => ?_) | skip
    refine rng ?_
    refine hN2 _ _ _ ?_
    refine nxa (k + 1) (by omega) (by repeat' first | exact rfl | refine And.intro ?_ ?_ | exact True.intro | (refine eqS ?_; (rw [halt_next hg]; rfl)))
   ·refine hN2 _ _ _ ?_
    exact (by rw [fence_yes hmy]; subst hi8; show _ = resG [RD.a (rHost (haltAll (outTo h m 8) m.toNat)), _]; rw [haltAll_row (k := k) hx (by omega)]; rfl)
end Go.Proofs.YteelmdpahpggkaaGreat.T

