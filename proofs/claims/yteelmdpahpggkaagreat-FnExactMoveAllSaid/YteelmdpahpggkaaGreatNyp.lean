
import Derived.Test.YteelmdpahpggkaaGreatNsp
import Derived.Test.YteelmdpahpggkaaGreatNxp
namespace Go.Proofs.YteelmdpahpggkaaGreat.T
open Go
set_option linter.unusedVariables false
set_option linter.unusedSimpArgs false
set_option maxRecDepth 100000
set_option maxHeartbeats 8000000
theorem putM_len {α : Type} {xs : List α} {i : Int} {x : α} : (put xs i x).length = xs.length := by unfold put; split <;> simp
theorem fillLeft_len {h : VHost} {v : VMove} : ∀ {l : List Int} {o : List (List Int)}, (fillLeft h v l o).length = o.length
 | [], o => rfl
 | p :: l, o => by rw [fillLeft, fillLeft_len, putM_len]
theorem fill_snoc {h : VHost} {v : VMove} {p : Int} : ∀ {l : List Int} {o : List (List Int)}, fillLeft h v (l ++ [p]) o = put (fillLeft h v l o) p (pageOf h v.M p)
 | [], o => rfl
 | q :: l, o => by rw [List.cons_append, fillLeft, fill_snoc, fillLeft]
theorem fill_step {h : VHost} {v : VMove} {i : Nat} {p : Int} {l : List Int} {o : List (List Int)} (hp : l[i]? = some p) (h0 : 0 ≤ p) : fillLeft h v (l.take (i + 1)) o = (fillLeft h v (l.take i) o).set p.toNat (pageOf h v.M p) := by
 rw [List.take_add_one, hp]
 show fillLeft h v (l.take i ++ [p]) o = _
 rw [fill_snoc]
 unfold put
 rw [if_pos h0]
theorem mem_rangeF {f : Nat → Bool} {n : Nat} {p : Int} (h : p ∈ rangeF f n) : 0 ≤ p ∧ p < n := by
 unfold rangeF at h
 obtain ⟨k, hk, rfl⟩ := List.mem_map.1 h
 have := List.mem_range.1 (List.mem_filter.1 hk).1
 omega
theorem left_in {h : VHost} {v : VMove} {i : Nat} {p : Int} (hp : (moveLeft h v)[i]? = some p) : 0 ≤ p ∧ p < 8 := by
 have h1 := List.mem_of_getElem? hp
 unfold moveLeft at h1
 split at h1
 ·cases h1
 ·split at h1
  ·have := mem_rangeF h1; omega
  ·cases h1
theorem left_len (h : VHost) (v : VMove) : (moveLeft h v).length ≤ 8 := by
 unfold moveLeft
 split
 ·simp
 ·split
  ·exact rangeF_len
  ·simp
instance (h : VHost) (v : VMove) : LenX (moveLeft h v) 8 := ⟨left_len h v⟩
def tabs (t : List VKept) (k : Nat) : List VKept := List.replicate k keptNew ++ t.drop k
theorem tabs_zero (t : List VKept) : tabs t 0 = t := by simp [tabs]
theorem tabs_len {t : List VKept} {k : Nat} (h : k ≤ t.length) : (tabs t k).length = t.length := by simp [tabs]; omega
theorem tabs_step {t : List VKept} {k : Nat} (h : k < t.length) : tabs t (k + 1) = (tabs t k).set k keptNew := by
 unfold tabs
 rw [List.set_append_right _ _ (by simp), List.length_replicate, Nat.sub_self, List.drop_eq_getElem_cons h, List.set_cons_zero, List.replicate_succ', List.append_assoc]
 rfl
theorem tabs_end {t : List VKept} {k : Nat} (h : k = t.length) : tabs t k = t.map fun _ => keptNew := by
 subst h
 simp [tabs, List.map_const']
theorem moves_yes {h : VHost} {v : VMove} (hm : moves h v = true) : hostOk h = true ∧ 0 ≤ v.M ∧ v.M < h.Mons.length ∧ v.Have.length = 8 := by
 simp only [moves, hasMon, Bool.and_eq_true, decide_eq_true_eq] at hm
 exact ⟨hm.1.1, hm.1.2.1, hm.1.2.2, hm.2⟩
theorem isSome_in {h : VHost} {m : Int} : (monAt h m).isSome = true ↔ 0 ≤ m ∧ m < h.Mons.length := by
 constructor
 ·intro e
  rcases Decidable.em (0 ≤ m ∧ m < h.Mons.length) with h1 | h1
  ·exact h1
  ·rw [monAt_out h1] at e; cases e
 ·intro e
  have : h.Mons[m.toNat]? = some (h.Mons[m.toNat]'(by omega)) := List.getElem?_eq_getElem (by omega)
  rw [monAt_in e.1 this]
  rfl
theorem moves_of {h : VHost} {v : VMove} (h1 : (monAt h v.M).isSome = true) (h2 : hostOk h = true) (h3 : v.Have.length = 8) : moves h v = true := by
 simp only [moves, hasMon, Bool.and_eq_true, decide_eq_true_eq]
 exact ⟨⟨h2, isSome_in.1 h1⟩, h3⟩
theorem image_no {h : VHost} {v : VMove} (hm : moves h v = false) : moveImage h v = none := by unfold moveImage; rw [hm]; rfl
theorem image_off {h : VHost} {v : VMove} (hm : (monAt h v.M).isSome = false ∨ hostOk h = false ∨ ¬ v.Have.length = 8) : moveImage h v = none := by
 apply image_no
 rw [Bool.eq_false_iff]
 intro e
 have h1 := moves_yes e
 rcases hm with hm | hm | hm
 ·rw [isSome_in.2 ⟨h1.2.1, h1.2.2.1⟩] at hm; cases hm
 ·rw [h1.1] at hm; cases hm
 ·exact hm h1.2.2.2
theorem image_yes {h : VHost} {v : VMove} {i k : Nat} (hm : moves h v = true) (hi : (moveLeft h v).length ≤ i) (hk : k = (monOr h v.M).Tables.length) :
  moveImage h v = some { monOr h v.M with Out := fillLeft h v ((moveLeft h v).take i) v.Have, Outer := tableNew 8, Dirty := List.replicate 8 false, Tables := tabs (monOr h v.M).Tables k } := by
 have h1 := moves_yes hm
 have h2 := monOr_some (isSome_in.2 ⟨h1.2.1, h1.2.2.1⟩)
 unfold moveImage
 rw [hm, List.take_of_length_le hi, tabs_end hk]
 show Option.map _ (monAt h v.M) = _
 rw [h2]
 rfl
theorem sm_monOr {h : VHost} {m : Int} (hh : SmHost h) : SmMon (monOr h m) := by
 unfold monOr
 cases h1 : monAt h m with
 | none => exact ⟨by simp [SmSlotS], ⟨by simp, fun x hx => by cases hx⟩, by simp [SmBoolS], ⟨by simp, fun x hx => by cases hx⟩, by simp [SmIntS], ⟨by simp, fun x hx => by cases hx⟩⟩
 | some x =>
  unfold monAt at? at h1
  split at h1
  ·exact hh.2.1.2 x (List.mem_of_getElem? h1)
  ·cases h1
instance (h : VHost) (m : Int) [hh : Q (SmHost h)] : Q (SmMon (monOr h m)) := ⟨sm_monOr hh.h⟩
theorem impl_MoveImage_f (h : VHost) (v : VMove) [Q (SmHost h)] [Q (SmMove v)] : Fun Tryz.prog 33 [A (rHost h), A (rMove v)] (RG [.a (rMon ((moveImage h v).getD noMon)), .c (.v (.bool (moveImage h v).isSome))]) := by
 refine Fun.w 62 Tryz.func33 fun w g0 hM => ?_
 have hl0 := hM.1.2.1.map
 have hl1 := hM.2.1.2.1.map
 refine callP (impl_moves_f h v).k ?_
 refine cnd (fun hb => ?_) (fun hb => ?_)
 ·exact (by rw [image_no (by assumption)]; rfl)
 ·have hmv : moves h v = true := by assumption
  have hmy := moves_yes hmv
  refine callG (impl_MonAt_f h v.M).k ?_
  refine callL (impl_TableNew_f 8 (by omega)).k ?_
  refine callL (impl_copyMem_f v.Have).k ?_
  refine callL (impl_MoveLeft_f h v).k ?_
  refine len ?_
  refine loopA [2, 3, 4, 5, 6, 31, 32] [] [6] (fun (i : Nat) => [.set 33 (I i)]) (fun (i : Nat) => [(6, ⟨true, [.own (.sl 2 ((tableNew 8).map dSlot)), .own (.sl 1 ((fillLeft h v ((moveLeft h v).take i) v.Have).map dIntS)), .own (.sl 1 (((monOr h v.M).Dirty).map dBool)), .own (.sl 15 ((monOr h v.M).Guests.map dGuest)), .own (.sl 1 ((monOr h v.M).Outs.map dInt)), .own (.v (.int .i64 (monOr h v.M).Pending)), .own (.v (.int .i64 (monOr h v.M).Traps)), .own (.sl 2 (((monOr h v.M).Tables).map dKept)), .own (.v (.int .i64 (monOr h v.M).Own))]⟩)]) (fun (i : Nat) => i ≤ (moveLeft h v).length) (fun (i : Nat) => (moveLeft h v).length - i) (0) (Nat.zero_le _) ?_
  refine ⟨hda, fun i hyp N1 hN1 => ?_⟩
  have hyp : i ≤ (moveLeft h v).length := hyp
  have hll := left_len h v
  refine cnd (fun hb2 => ?_) (fun hb2 => ?_)
  ·obtain ⟨p, hp⟩ : ∃ p, (moveLeft h v)[i]? = some p := ⟨_, List.getElem?_eq_getElem (by omega)⟩
   have hpr := left_in hp
   have hfl : (fillLeft h v ((moveLeft h v).take i) v.Have).length = v.Have.length := fillLeft_len
   obtain ⟨y, hy⟩ : ∃ y, (fillLeft h v ((moveLeft h v).take i) v.Have)[p.toNat]? = some y := ⟨_, List.getElem?_eq_getElem (by omega)⟩
   first | refine ixm (by assumption) ?_ | refine bnd ?_ | refine bndi ?_ | refine ixkq (fun y35 hy35 qy35 ly35 => ?_) | refine ixiq (fun y35 hy35 qy35 ly35 => ?_)
   first | refine ixs ?_ | refine ixo (by assumption) ?_ | refine ixoq (fun z1 hz1 qz1 lz1 => ?_) | skip
   refine regU [9] [(0, 0), (1, 0), (2, 0), (3, 0), (4, 0), (5, 0), (6, 0), (7, 1), (8, 0), (9, 1)] ?_
   refine callL (impl_PageOf_f h v.M p).k ?_
   refine bndi ?_ (by rw [List.length_map, fillLeft_len]; omega)
   first | refine ixs ?_ | refine ixo (by assumption) ?_ | refine ixoq (fun z2 hz2 qz2 lz2 => ?_) | skip
   refine rng ?_
   refine hN1 _ _ _ ?_
   refine nxa (i + 1) (by omega) (by repeat' first | exact rfl | refine And.intro ?_ ?_ | exact True.intro | (refine eqS ?_; rw [fill_step hp (by omega), List.map_set]; done))
  ·refine hN1 _ _ _ ?_
   refine mkw 8 ?_
   refine len ?_
   refine loopA [4, 5, 6, 51] [] [6, 20] (fun (k : Nat) => [.set 52 (I k)]) (fun (k : Nat) => [(6, ⟨true, [.own (.sl 2 ((tableNew 8).map dSlot)), .own (.sl 1 ((fillLeft h v ((moveLeft h v).take i) v.Have).map dIntS)), .own (.sl 1 ((List.replicate 8 false).map dBool)), .own (.sl 15 ((monOr h v.M).Guests.map dGuest)), .own (.sl 1 ((monOr h v.M).Outs.map dInt)), .own (.v (.int .i64 (monOr h v.M).Pending)), .own (.v (.int .i64 (monOr h v.M).Traps)), .own (.sl 2 ((tabs (monOr h v.M).Tables k).map dKept)), .own (.v (.int .i64 (monOr h v.M).Own))]⟩)]) (fun (k : Nat) => k ≤ (monOr h v.M).Tables.length) (fun (k : Nat) => (monOr h v.M).Tables.length - k) (0) (Nat.zero_le _) ?_
   refine ⟨(hda (by repeat' first | exact rfl | refine And.intro ?_ ?_ | exact True.intro | (refine eqS ?_; simp [tabs_zero]; done))), fun k hypk N2 hN2 => ?_⟩
   have hypk : k ≤ (monOr h v.M).Tables.length := hypk
   have htl := tabs_len (t := (monOr h v.M).Tables) (k := k) hypk
   have htt := (inferInstance : LenX (monOr h v.M).Tables 1048576).h
   refine cnd (fun hb3 => ?_) (fun hb3 => ?_)
   ·obtain ⟨z, hz⟩ : ∃ z, (tabs (monOr h v.M).Tables k)[k]? = some z := ⟨_, List.getElem?_eq_getElem (by omega)⟩
    refine regU [5] [(0, 0), (1, 0), (2, 0), (3, 1), (4, 0), (5, 1)] ?_
    refine callG (impl_KeptNew_f).k ?_
    refine bnd ?_ (by rw [List.length_map, htl]; omega)
    first | refine ixs ?_ | refine ixo (by assumption) ?_ | refine ixoq (fun z3 hz3 qz3 lz3 => ?_) | skip
    refine rng ?_
    refine hN2 _ _ _ ?_
    refine nxa (k + 1) (by omega) (by repeat' first | exact rfl | refine And.intro ?_ ?_ | exact True.intro | (refine eqS ?_; rw [tabs_step (by omega), List.map_set]; done) | (refine eqS ?_; rw [tabs_step (by omega), List.map_set]; simp [List.set_set]; done))
   ·refine hN2 _ _ _ ?_
    exact (by rw [image_yes (i := i) (k := k) hmv (by omega) (by omega)]; rfl)
theorem spec_MoveImage_f (h : VHost) (v : VMove) [Q (SmHost h)] [Q (SmMove v)] : Fun Tryz.prog 31 [A (rHost h), A (rMove v)] (RG [.a (rMon ((moveImage h v).getD noMon)), .c (.v (.bool (moveImage h v).isSome))]) := by
 refine Fun.w 77 Tryz.func31 fun w g0 hM => ?_
 have hl0 := hM.1.2.1.map
 have hl1 := hM.2.1.2.1.map
 refine callG (spec_MonAt_f h v.M).k ?_
 refine cnd (fun hg2 => ?_) (fun hg2 => ?_)
 ·exact (by rw [image_off (by first | (left; assumption) | (right; left; assumption) | (right; right; omega))]; rfl)
 ·refine callP (spec_HostOk_f h).k ?_
  refine cnd (fun hg7 => ?_) (fun hg7 => ?_)
  ·exact (by rw [image_off (by first | (left; assumption) | (right; left; assumption) | (right; right; omega))]; rfl)
  ·refine len ?_
   refine cnd (fun hb => ?_) (fun hb => ?_)
   ·exact (by rw [image_off (by first | (left; assumption) | (right; left; assumption) | (right; right; omega))]; rfl)
   ·have hmv : moves h v = true := moves_of (by assumption) (by assumption) (by omega)
    have hmy := moves_yes hmv
    refine callL (spec_l04Copy_f v.Have).k ?_
    refine callL (spec_MoveLeft_f h v).k ?_
    refine loopA [2, 3, 4, 5, 6, 8] [] [6] (fun (i : Nat) => [.set 9 (I i)]) (fun (i : Nat) => [(6, ⟨true, [.own (.sl 2 (((monOr h v.M).Outer).map dSlot)), .own (.sl 1 ((fillLeft h v ((moveLeft h v).take i) v.Have).map dIntS)), .own (.sl 1 (((monOr h v.M).Dirty).map dBool)), .own (.sl 15 ((monOr h v.M).Guests.map dGuest)), .own (.sl 1 ((monOr h v.M).Outs.map dInt)), .own (.v (.int .i64 (monOr h v.M).Pending)), .own (.v (.int .i64 (monOr h v.M).Traps)), .own (.sl 2 (((monOr h v.M).Tables).map dKept)), .own (.v (.int .i64 (monOr h v.M).Own))]⟩)]) (fun (i : Nat) => i ≤ (moveLeft h v).length) (fun (i : Nat) => (moveLeft h v).length - i) (0) (Nat.zero_le _) ?_
    refine ⟨hda, fun i hyp N1 hN1 => ?_⟩
    have hyp : i ≤ (moveLeft h v).length := hyp
    have hll := left_len h v
    refine len ?_
    refine cnd (fun hb2 => ?_) (fun hb2 => ?_)
    ·obtain ⟨p, hp⟩ : ∃ p, (moveLeft h v)[i]? = some p := ⟨_, List.getElem?_eq_getElem (by omega)⟩
     have hpr := left_in hp
     have hfl : (fillLeft h v ((moveLeft h v).take i) v.Have).length = v.Have.length := fillLeft_len
     obtain ⟨y, hy⟩ : ∃ y, (fillLeft h v ((moveLeft h v).take i) v.Have)[p.toNat]? = some y := ⟨_, List.getElem?_eq_getElem (by omega)⟩
     refine regU [15] [(0, 0), (1, 0), (2, 0), (3, 0), (4, 0), (5, 0), (6, 0), (7, 0), (8, 0), (9, 0), (10, 0), (11, 0), (12, 0), (13, 1), (14, 0), (15, 1)] ?_
     first | refine ixm (by assumption) ?_ | refine bnd ?_ | refine bndi ?_ | refine ixkq (fun y49 hy49 qy49 ly49 => ?_) | refine ixiq (fun y49 hy49 qy49 ly49 => ?_)
     first | refine ixs ?_ | refine ixo (by assumption) ?_ | refine ixoq (fun z1 hz1 qz1 lz1 => ?_) | skip
     first | refine ixm (by assumption) ?_ | refine bnd ?_ | refine bndi ?_ | refine ixkq (fun y56 hy56 qy56 ly56 => ?_) | refine ixiq (fun y56 hy56 qy56 ly56 => ?_)
     first | refine ixs ?_ | refine ixo (by assumption) ?_ | refine ixoq (fun z2 hz2 qz2 lz2 => ?_) | skip
     refine callL (spec_PageOf_f h v.M p).k ?_
     refine bndi ?_ (by rw [List.length_map, fillLeft_len]; omega)
     first | refine ixs ?_ | refine ixo (by assumption) ?_ | refine ixoq (fun z3 hz3 qz3 lz3 => ?_) | skip
     refine rng ?_
     refine hN1 _ _ _ ?_
     refine nxa (i + 1) (by omega) (by repeat' first | exact rfl | refine And.intro ?_ ?_ | exact True.intro | (refine eqS ?_; rw [fill_step hp (by omega), List.map_set]; done))
    ·refine hN1 _ _ _ ?_
     refine callL (spec_TableNew_f 8 (by omega)).k ?_
     refine mkw 8 ?_
     refine loopA [4, 5, 6] [] [6, 15] (fun (k : Nat) => [.set 10 (I k)]) (fun (k : Nat) => [(6, ⟨true, [.own (.sl 2 ((tableNew 8).map dSlot)), .own (.sl 1 ((fillLeft h v ((moveLeft h v).take i) v.Have).map dIntS)), .own (.sl 1 ((List.replicate 8 false).map dBool)), .own (.sl 15 ((monOr h v.M).Guests.map dGuest)), .own (.sl 1 ((monOr h v.M).Outs.map dInt)), .own (.v (.int .i64 (monOr h v.M).Pending)), .own (.v (.int .i64 (monOr h v.M).Traps)), .own (.sl 2 ((tabs (monOr h v.M).Tables k).map dKept)), .own (.v (.int .i64 (monOr h v.M).Own))]⟩)]) (fun (k : Nat) => k ≤ (monOr h v.M).Tables.length) (fun (k : Nat) => (monOr h v.M).Tables.length - k) (0) (Nat.zero_le _) ?_
     refine ⟨(hda (by repeat' first | exact rfl | refine And.intro ?_ ?_ | exact True.intro | (refine eqS ?_; simp [tabs_zero]; done))), fun k hypk N2 hN2 => ?_⟩
     have hypk : k ≤ (monOr h v.M).Tables.length := hypk
     have htl := tabs_len (t := (monOr h v.M).Tables) (k := k) hypk
     have htt := (inferInstance : LenX (monOr h v.M).Tables 1048576).h
     refine len ?_
     refine cnd (fun hb3 => ?_) (fun hb3 => ?_)
     ·obtain ⟨z, hz⟩ : ∃ z, (tabs (monOr h v.M).Tables k)[k]? = some z := ⟨_, List.getElem?_eq_getElem (by omega)⟩
      refine regU [5] [(0, 0), (1, 0), (2, 0), (3, 1), (4, 0), (5, 1)] ?_
      refine callG (spec_KeptNew_f).k ?_
      refine bnd ?_ (by rw [List.length_map, htl]; omega)
      first | refine ixs ?_ | refine ixo (by assumption) ?_ | refine ixoq (fun z4 hz4 qz4 lz4 => ?_) | skip
      refine rng ?_
      refine hN2 _ _ _ ?_
      refine nxa (k + 1) (by omega) (by repeat' first | exact rfl | refine And.intro ?_ ?_ | exact True.intro | (refine eqS ?_; rw [tabs_step (by omega), List.map_set]; done) | (refine eqS ?_; rw [tabs_step (by omega), List.map_set]; simp [List.set_set]; done))
     ·refine hN2 _ _ _ ?_
      exact (by rw [image_yes (i := i) (k := k) hmv (by omega) (by omega)]; rfl)
end Go.Proofs.YteelmdpahpggkaaGreat.T

namespace Go.Proofs.YteelmdpahpggkaaGreat.T
open Go
set_option linter.unusedVariables false
set_option linter.unusedSimpArgs false
set_option maxRecDepth 100000
set_option maxHeartbeats 8000000
theorem mon_is {h : VHost} {m : Nat} {x : VMon} (hx : h.Mons[m]? = some x) : mon h m = x := by unfold mon; rw [hx]; rfl
theorem slot_is {h : VHost} {m p : Nat} {x : VMon} {z : VSlot} (hx : h.Mons[m]? = some x) (hz : x.Outer[p]? = some z) : slotOf h m p = z := by unfold slotOf; rw [mon_is hx, hz]; rfl
theorem slotSet_eq {h : VHost} {m p : Nat} {x : VMon} {z s : VSlot} (hx : h.Mons[m]? = some x) (hz : x.Outer[p]? = some z) :
  slotSet h m p s = { h with Mons := h.Mons.set m { x with Tables := lessKept x p, Outer := x.Outer.set p s }, Buffer := if z.Page = -1 then h.Buffer else flushHost h.Buffer z.Page, IoBuffer := if z.Page = -1 then h.IoBuffer else flushHost h.IoBuffer z.Page } := by
 unfold slotSet
 simp only [mon_is hx, slot_is hx hz]
theorem setOut_eq {h : VHost} {m p : Nat} {x : VMon} {l : List Int} (hx : h.Mons[m]? = some x) : setOut h m p l = { h with Mons := h.Mons.set m { x with Out := x.Out.set p l } } := by
 unfold setOut setMon
 rw [mon_is hx]
theorem sent_eq {h : VHost} {m p : Nat} {x : VMon} {z : VSlot} (hx : h.Mons[m]? = some x) (hz : x.Outer[p]? = some z) : spoilt (hostSent h m x p z) m (monSent h x p z) p z = sendOut h m p := by
 have h1 : (setOut h m p (pageAt h.Memory z.Page)).Mons[m]? = some { x with Out := x.Out.set p (pageAt h.Memory z.Page) } := by rw [setOut_eq hx]; exact set_at hx
 unfold sendOut
 rw [slot_is hx hz, slotSet_eq h1 hz, setOut_eq hx]
 unfold spoilt hostSent monSent lessKept
 simp only [List.set_set]
theorem impl_send_r {row : List D} {mi pi : Int} (h : VHost) (m : Nat) (x : VMon) (p : Nat) (z : VSlot) (hmi : mi = m) (hpi : pi = p) (hr : row = rHost h) (hx : h.Mons[m]? = some x) (hxt : x.Tables.length = x.Guests.length) (hz : x.Outer[p]? = some z) (hol : x.Out.length = 8) (hol2 : x.Outer.length = 8) (q : SmHost h) :
  Fun2 Tryz.prog 226 ⟨true, row⟩ [.one (.ptr ⟨1000001, [], 0⟩), I mi, I pi] (RP2 (rHost (sendOut h m p)) (.tup [])) := by
 subst hr hmi hpi
 have : Q (SmHost h) := ⟨q⟩
 rw [← sent_eq hx hz]
 exact impl_send_f h m x p z hx hxt hz hol hol2
theorem host_mon {h : VHost} {m : Nat} {x : VMon} (hh : hostOk h = true) (hx : h.Mons[m]? = some x) : monOk x = true := by
 simp only [hostOk, Bool.and_eq_true] at hh
 exact List.all_eq_true.1 hh.1.2 x (List.mem_of_getElem? hx)
theorem pageOut_no {h : VHost} {m p : Int} (hp : hasPage h m p = false) : pageOut h m p = none := by unfold pageOut; rw [hp]; rfl
theorem pageOut_off {h : VHost} {m p : Int} {x : VMon} {z : VSlot} (hx : h.Mons[m.toNat]? = some x) (hz : x.Outer[p.toNat]? = some z) (h1 : z.Page = -1) : pageOut h m p = none := by
 unfold pageOut
 rw [slot_is hx hz, decide_eq_false (by simp [h1]), Bool.and_false]
 rfl
theorem pageOut_yes {h : VHost} {m p : Int} {x : VMon} {z : VSlot} (hp : hasPage h m p = true) (hx : h.Mons[m.toNat]? = some x) (hz : x.Outer[p.toNat]? = some z) (h1 : ¬ z.Page = -1) : pageOut h m p = some (sendOut h m.toNat p.toNat) := by
 unfold pageOut
 rw [slot_is hx hz, decide_eq_true h1, hp]
 rfl
theorem impl_PageOut_f (h : VHost) (m : Int) (p : Int) [Q (SmHost h)] : Fun Tryz.prog 142 [A (rHost h), I m, I p] (RG [.a (rHost ((pageOut h m p).getD h)), .c (.v (.bool (pageOut h m p).isSome))]) := by
 refine Fun.w 34 Tryz.func142 fun w g0 hM => ?_
 have hl0 := hM.1.2.1.map
 refine callG (impl_copyHost_f h).k ?_
 refine callP (impl_hasPage_f h m p).k ?_
 refine cnd (fun hg5 => ?_) (fun hg5 => ?_)
 ·exact (by first | (rw [pageOut_no (by assumption)]; rfl) | (rw [pageOut_off hx hz (by omega)]; rfl))
 ·have hpg := hasPage_on.1 (by assumption : hasPage h m p = true)
  obtain ⟨x, hx⟩ : ∃ x, h.Mons[m.toNat]? = some x := ⟨_, List.getElem?_eq_getElem (by omega)⟩
  have hmo := mon_outer (host_mon hpg.1 hx)
  obtain ⟨z, hz⟩ : ∃ z, x.Outer[p.toNat]? = some z := ⟨_, List.getElem?_eq_getElem (by omega)⟩
  refine ixm hx ?_
  first | refine ixs ?_ | refine ixo (by assumption) ?_ | refine ixoq (fun z1 hz1 qz1 lz1 => ?_) | skip
  first | refine ixs ?_ | refine ixo (by assumption) ?_ | refine ixoq (fun z2 hz2 qz2 lz2 => ?_) | skip
  refine ixm hz ?_
  first | refine ixs ?_ | refine ixo (by assumption) ?_ | refine ixoq (fun z3 hz3 qz3 lz3 => ?_) | skip
  first | refine ixs ?_ | refine ixo (by assumption) ?_ | refine ixoq (fun z4 hz4 qz4 lz4 => ?_) | skip
  refine cnd (fun hb => ?_) (fun hb => ?_)
  ·exact (by first | (rw [pageOut_no (by assumption)]; rfl) | (rw [pageOut_off hx hz (by omega)]; rfl))
  ·refine callX 8 (impl_send_r (mi := m) (pi := p) h m.toNat x p.toNat z (by omega) (by omega) rfl hx hmo.2.2.1 hz hmo.2.2.2.1 hmo.1 (by assumption : Q (SmHost h)).h) ?_
   exact (by rw [pageOut_yes (by assumption) hx hz (by omega)]; rfl)
end Go.Proofs.YteelmdpahpggkaaGreat.T

