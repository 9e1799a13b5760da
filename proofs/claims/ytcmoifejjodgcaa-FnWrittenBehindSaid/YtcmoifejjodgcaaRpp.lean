
import Derived.Test.YtcmoifejjodgcaaNvp
import Derived.Test.YtcmoifejjodgcaaOfp
import Derived.Test.YtcmoifejjodgcaaNhp
namespace Go.Proofs.Ytcmoifejjodgcaa.T
open Go
set_option linter.unusedVariables false
set_option linter.unusedSimpArgs false
set_option maxRecDepth 100000
set_option maxHeartbeats 8000000
section
variable {t : List VSlot} {page : Int} {k i : Nat} {s : VSlot} {l : List VMon} {u : VMon} {r : Option (Nat × Nat)}
theorem oi_hit (h : ∀ y ∈ t.take k, ¬ y.Page = page) (hs : t[k]? = some s) (hp : s.Page = page) : ownerIn t page = some k := by
 obtain ⟨hk, he⟩ := List.getElem?_eq_some_iff.1 hs
 unfold ownerIn
 rw [List.findIdx?_eq_some_iff_getElem]
 refine ⟨hk, by rw [he]; exact decide_eq_true hp, fun j hj => ?_⟩
 have h1 : t[j]'(by omega) ∈ t.take k := by
  rw [List.mem_take_iff_getElem]
  exact ⟨j, by omega, rfl⟩
 simpa using h _ h1
theorem oi_none (h : ∀ y ∈ t.take k, ¬ y.Page = page) (hk : t.length ≤ k) : ownerIn t page = none := by
 rw [List.take_of_length_le hk] at h
 unfold ownerIn
 rw [List.findIdx?_eq_none_iff]
 exact fun y hy => decide_eq_false (h y hy)
theorem oi_next (h : ∀ y ∈ t.take k, ¬ y.Page = page) (hs : t[k]? = some s) (hp : ¬ s.Page = page) : ∀ y ∈ t.take (k + 1), ¬ y.Page = page := by
 rw [List.take_add_one, hs]
 intro y hy
 rcases List.mem_append.1 hy with hy | hy
 ·exact h y hy
 ·rw [List.mem_singleton.1 hy]; exact hp
theorem drop_at (hu : l[i]? = some u) : l.drop i = u :: l.drop (i + 1) := by
 obtain ⟨hi, he⟩ := List.getElem?_eq_some_iff.1 hu
 rw [List.drop_eq_getElem_cons hi, he]
theorem ot_hit (h : ownerTo (l.drop i) page i = r) (hu : l[i]? = some u) (ho : ownerIn u.Outer page = some k) : r = some (i, k) := by
 rw [drop_at hu] at h
 rw [← h]
 unfold ownerTo
 rw [ho]
theorem ot_next (h : ownerTo (l.drop i) page i = r) (hu : l[i]? = some u) (ho : ownerIn u.Outer page = none) : ownerTo (l.drop (i + 1)) page (i + 1) = r := by
 rw [drop_at hu] at h
 rw [← h]
 conv => rhs; unfold ownerTo
 rw [ho]
theorem ot_end (h : ownerTo (l.drop i) page i = r) (hi : l.length ≤ i) : r = none := by
 rw [List.drop_of_length_le hi] at h
 exact h.symm
end
def oM (q : Option (Nat × Nat)) : Int := (q.map fun a => (a.1 : Int)).getD (-1)
def oP (q : Option (Nat × Nat)) : Int := (q.map fun a => (a.2 : Int)).getD (-1)
theorem oM_neg {q : Option (Nat × Nat)} : oM q < 0 ↔ q = none := by
 cases q with
 | none => simp [oM]
 | some a => simp [oM]
theorem own_off {h : VHost} {page : Int} (hp : ¬ 0 ≤ page) : ownerOfPage h page = none := if_neg hp
theorem own_on {h : VHost} {page : Int} (hp : 0 ≤ page) : ownerOfPage h page = ownerTo h.Mons page 0 := if_pos hp
theorem own_hit {h : VHost} {page : Int} {i k : Nat} {u : VMon} {s : VSlot} (hp : 0 ≤ page) (h1 : ownerTo (h.Mons.drop i) page i = ownerTo h.Mons page 0) (hu : h.Mons[i]? = some u) (h2 : ∀ y ∈ u.Outer.take k, ¬ y.Page = page) (hs : u.Outer[k]? = some s) (he : s.Page = page) : ownerOfPage h page = some (i, k) := by
 rw [own_on hp]
 exact ot_hit h1 hu (oi_hit h2 hs he)
theorem own_end {h : VHost} {page : Int} {i : Nat} (h1 : ownerTo (h.Mons.drop i) page i = ownerTo h.Mons page 0) (hi : h.Mons.length ≤ i) : ownerOfPage h page = none := by
 unfold ownerOfPage
 rw [ot_end h1 hi]
 split <;> rfl
theorem free_yes {h : VHost} {p : Nat} (hp : oM (ownerOfPage h p) < 0) : (rangeF (freeB h) (p + 1)).map dInt = (rangeF (freeB h) p).map dInt ++ [dInt p] := by
 have e : freeB h p = true := by unfold freeB; rw [oM_neg.1 hp]; rfl
 rw [rangeF_succ, e, List.map_append]
 rfl
theorem free_no {h : VHost} {p : Nat} (hp : ¬ oM (ownerOfPage h p) < 0) : (rangeF (freeB h) (p + 1)).map dInt = (rangeF (freeB h) p).map dInt := by
 have e : freeB h p = false := by
  cases h1 : ownerOfPage h p with
  | none => exact absurd (oM_neg.2 h1) hp
  | some a => unfold freeB; rw [h1]; rfl
 rw [rangeF_succ, e]
 simp
theorem free_end {h : VHost} {i : Nat} (h1 : i ≤ h.Memory.length) (h2 : h.Memory.length ≤ i) : freeIn h = rangeF (freeB h) i := by rw [show i = h.Memory.length from Nat.le_antisymm h1 h2]; rfl
theorem impl_OwnerOfPage_f (h : VHost) (page : Int) [Q (SmHost h)] : Fun Try.prog 82 [A (rHost h), I page] (RG [.c (.v (.int .i64 (oM (ownerOfPage h page)))), .c (.v (.int .i64 (oP (ownerOfPage h page))))]) := by
 refine Fun.w 36 Try.func82 fun w g0 hM => ?_
 have hl0 := hM.1.2.1.map
 refine cnd (fun hb => ?_) (fun hb => ?_)
 ·exact (by rw [own_off (by omega)]; rfl)
 ·refine len ?_
  refine loopA [1, 13, 14] [] [] (fun (i : Nat) => [.set 15 (I i)]) (fun (i : Nat) => []) (fun (i : Nat) => (i ≤ h.Mons.length) ∧ (ownerTo (h.Mons.drop i) page i = ownerTo h.Mons page 0)) (fun (i : Nat) => h.Mons.length - i) (0) (⟨Nat.zero_le _, rfl⟩) ?_
  refine ⟨hda, fun i hyp N1 hN1 => ?_⟩
  have hyp : (i ≤ h.Mons.length) ∧ (ownerTo (h.Mons.drop i) page i = ownerTo h.Mons page 0) := hyp
  have hyp1 := hyp.1
  refine cnd (fun hb2 => ?_) (fun hb2 => ?_)
  ·obtain ⟨u, hu⟩ : ∃ u, h.Mons[i]? = some u := ⟨_, List.getElem?_eq_getElem (by omega)⟩
   have qx : Q (SmMon u) := ⟨ElS.h u (List.mem_of_getElem? hu)⟩
   have hul := (inferInstance : LenX u.Outer 1048576).h
   refine ixm hu ?_
   first | refine ixs ?_ | refine ixo (by assumption) ?_ | refine ixoq (fun z1 hz1 qz1 lz1 => ?_) | skip
   refine len ?_
   refine loopA [1, 6, 13, 14, 15, 21, 22] [] [] (fun (k : Nat) => [.set 23 (I k)]) (fun (k : Nat) => []) (fun (k : Nat) => k ≤ u.Outer.length ∧ ∀ y ∈ u.Outer.take k, ¬ y.Page = page) (fun (k : Nat) => u.Outer.length - k) (0) (⟨Nat.zero_le _, by simp⟩) ?_
   refine ⟨hda, fun k hypk N2 hN2 => ?_⟩
   have hypk : k ≤ u.Outer.length ∧ ∀ y ∈ u.Outer.take k, ¬ y.Page = page := hypk
   have hypk1 := hypk.1
   refine cnd (fun hb3 => ?_) (fun hb3 => ?_)
   ·obtain ⟨s, hs⟩ : ∃ s, u.Outer[k]? = some s := ⟨_, List.getElem?_eq_getElem (by omega)⟩
    refine ixm hs ?_
    first | refine ixs ?_ | refine ixo (by assumption) ?_ | refine ixoq (fun z2 hz2 qz2 lz2 => ?_) | skip
    refine cnd (fun hb4 => ?_) (fun hb4 => ?_)
    ·refine hN2 _ _ _ ?_
     refine hN1 _ _ _ ?_
     exact (by rw [own_hit (by omega) hyp.2 hu hypk.2 hs (by assumption)]; rfl)
    ·refine rng ?_
     refine hN2 _ _ _ ?_
     refine nxa (k + 1) (⟨by omega, oi_next hypk.2 hs (by assumption)⟩)
   ·refine hN2 _ _ _ ?_
    refine rng ?_
    refine hN1 _ _ _ ?_
    refine nxa (i + 1) (⟨by omega, ot_next hyp.2 hu (oi_none hypk.2 (by omega))⟩)
  ·refine hN1 _ _ _ ?_
   exact (by first | (rw [own_end hyp.2 (by omega)]; rfl) | (rw [own_off (by omega)]; rfl))
theorem impl_FreeIn_f (h : VHost) [Q (SmHost h)] : Fun Try.prog 67 [A (rHost h)] (RL 1 ((freeIn h).map dInt)) := by
 refine Fun.w 28 Try.func67 fun w g0 hM => ?_
 have hl0 := hM.1.1.map
 refine len ?_
 refine loopA [1, 2, 3, 10] [3] [3] (fun (i : Nat) => [.set 11 (I i)]) (fun (i : Nat) => [(3, ⟨false, [.own (.sl 1 ((rangeF (freeB h) i).map dInt))]⟩)]) (fun (i : Nat) => i ≤ h.Memory.length) (fun (i : Nat) => h.Memory.length - i) (0) (Nat.zero_le _) ?_
 refine ⟨hda, fun i hyp N1 hN1 => ?_⟩
 have hyp : i ≤ h.Memory.length := hyp
 have hr := @rangeF_len (freeB h) i
 have hml := (inferInstance : LenX h.Memory 1048576).h
 refine cnd (fun hb => ?_) (fun hb => ?_)
 ·refine callG (impl_OwnerOfPage_f h i).k ?_
  refine cnd (fun hb2 => ?_) (fun hb2 => ?_)
  ·first | refine appPq ?_ | refine appP ?_
   refine rng ?_
   refine hN1 _ _ _ ?_
   refine nxa (i + 1) (by omega) (by repeat' first | exact rfl | refine And.intro ?_ ?_ | exact True.intro | (refine eqS ?_; rw [free_yes (by assumption)]; done) | (refine eqS ?_; rw [free_no (by assumption)]; done))
  ·refine rng ?_
   refine hN1 _ _ _ ?_
   refine nxa (i + 1) (by omega) (by repeat' first | exact rfl | refine And.intro ?_ ?_ | exact True.intro | (refine eqS ?_; rw [free_yes (by assumption)]; done) | (refine eqS ?_; rw [free_no (by assumption)]; done))
 ·refine hN1 _ _ _ ?_
  exact (by rw [free_end hyp (by omega)]; rfl)
end Go.Proofs.Ytcmoifejjodgcaa.T

namespace Go.Proofs.Ytcmoifejjodgcaa.T
open Go
set_option linter.unusedVariables false
set_option linter.unusedSimpArgs false
def ShM (x : VMon) : Prop := x.Outer.length = 8 ∧ x.Out.length = 8 ∧ x.Dirty.length = 8 ∧ x.Tables.length = x.Guests.length
def Shp (h : VHost) : Prop := SmHost h ∧ h.Memory.length = 12 ∧ ∀ x ∈ h.Mons, ShM x
def Alone (h : VHost) : Prop := (h.Mons.flatMap pagesIn).Nodup
theorem Shp.q {h : VHost} (hh : Shp h) : Q (SmHost h) := ⟨hh.1⟩
theorem Shp.mon {h : VHost} {m : Nat} {x : VMon} (hh : Shp h) (hx : h.Mons[m]? = some x) : ShM x := hh.2.2 x (List.mem_of_getElem? hx)
theorem Shp.sm {h : VHost} {m : Nat} {x : VMon} (hh : Shp h) (hx : h.Mons[m]? = some x) : SmMon x := hh.1.2.1.2 x (List.mem_of_getElem? hx)
theorem shp_ok {h : VHost} (h1 : hostOk h = true) (h2 : SmHost h) : Shp h := by
 refine ⟨h2, ?_, fun x hx => ?_⟩
 ·simp only [hostOk, memOk, Bool.and_eq_true, decide_eq_true_eq] at h1
  omega
 ·have h3 := mon_outer (List.all_eq_true.1 (by simp only [hostOk, Bool.and_eq_true] at h1; exact h1.1.2) x hx)
  exact ⟨h3.1, h3.2.2.2.1, h3.2.2.2.2.1, h3.2.2.1⟩
theorem alone_ok {h : VHost} (h1 : hostOk h = true) : Alone h := by
 simp only [hostOk, Bool.and_eq_true, decide_eq_true_eq] at h1
 exact h1.2
theorem shp_set {h : VHost} {m : Nat} {y : VMon} (hh : Shp h) (hy : SmMon y) (hs : ShM y) : Shp { h with Mons := h.Mons.set m y } := by
 refine ⟨sm_setM hh.1 hy, hh.2.1, fun x hx => ?_⟩
 rcases List.mem_or_eq_of_mem_set hx with hx | rfl
 ·exact hh.2.2 x hx
 ·exact hs
theorem len_less {x : VMon} {p : Int} (hx : x.Tables.length = x.Guests.length) : (lessKept x p).length = x.Guests.length := by
 unfold lessKept
 rw [List.length_zipWith]
 omega
theorem shp_slot {h : VHost} {m p : Nat} {x : VMon} {z s : VSlot} (hh : Shp h) (hx : SmMon x) (hs : ShM x) : Shp (slotted h m x p z s) := by
 refine ⟨sm_slotted hh.1 hx, hh.2.1, fun y hy => ?_⟩
 rcases List.mem_or_eq_of_mem_set hy with hy | rfl
 ·exact hh.2.2 y hy
 ·exact ⟨by show (x.Outer.set _ _).length = 8; rw [List.length_set]; exact hs.1, hs.2.1, hs.2.2.1, len_less hs.2.2.2⟩
theorem pg_in {x : VMon} {k : Nat} {s : VSlot} (hs : x.Outer[k]? = some s) (h0 : 0 ≤ s.Page) : s.Page ∈ pagesIn x :=
 List.mem_filter.2 ⟨List.mem_map_of_mem (List.mem_of_getElem? hs), decide_eq_true h0⟩
theorem alone_1 {h : VHost} {i j : Nat} {x y : VMon} (hh : Alone h) (hx : h.Mons[i]? = some x) (hy : h.Mons[j]? = some y) {p : Int} (h1 : p ∈ pagesIn x) (h2 : p ∈ pagesIn y) : i = j := by
 have h3 := (List.pairwise_iff_getElem.1 (List.pairwise_flatMap.1 hh).2)
 obtain ⟨hi, ei⟩ := List.getElem?_eq_some_iff.1 hx
 obtain ⟨hj, ej⟩ := List.getElem?_eq_some_iff.1 hy
 rcases Nat.lt_trichotomy i j with h4 | h4 | h4
 ·exact absurd rfl (h3 i j hi hj h4 p (by rw [ei]; exact h1) p (by rw [ej]; exact h2))
 ·exact h4
 ·exact absurd rfl (h3 j i hj hi h4 p (by rw [ej]; exact h2) p (by rw [ei]; exact h1))
theorem alone_2 {h : VHost} {x : VMon} {i k j : Nat} {s t : VSlot} (hh : Alone h) (hx : h.Mons[i]? = some x) (hs : x.Outer[k]? = some s) (ht : x.Outer[j]? = some t) (h0 : 0 ≤ s.Page) (he : s.Page = t.Page) : k = j := by
 have h1 := (List.pairwise_flatMap.1 hh).1 x (List.mem_of_getElem? hx)
 have h3 := List.pairwise_iff_getElem.1 (List.pairwise_map.1 (List.pairwise_filter.1 h1))
 obtain ⟨hi, ei⟩ := List.getElem?_eq_some_iff.1 hs
 obtain ⟨hj, ej⟩ := List.getElem?_eq_some_iff.1 ht
 rcases Nat.lt_trichotomy k j with h4 | h4 | h4
 ·exact absurd (by rw [ei, ej]; exact he) (h3 k j hi hj h4 (by rw [ei]; exact decide_eq_true h0) (by rw [ej, ← he]; exact decide_eq_true h0))
 ·exact h4
 ·exact absurd (by rw [ei, ej]; exact he.symm) (h3 j k hj hi h4 (by rw [ej, ← he]; exact decide_eq_true h0) (by rw [ei]; exact decide_eq_true h0))
theorem ownIn_some {t : List VSlot} {page : Int} {k : Nat} (h : ownerIn t page = some k) : ∃ s, t[k]? = some s ∧ s.Page = page := by
 unfold ownerIn at h
 rw [List.findIdx?_eq_some_iff_getElem] at h
 obtain ⟨hk, h1, _⟩ := h
 exact ⟨_, List.getElem?_eq_getElem hk, of_decide_eq_true h1⟩
theorem ownIn_none {t : List VSlot} {page : Int} : ownerIn t page = none ↔ ∀ s ∈ t, ¬ s.Page = page := by
 unfold ownerIn
 rw [List.findIdx?_eq_none_iff]
 exact ⟨fun h s hs => of_decide_eq_false (h s hs), fun h s hs => decide_eq_false (h s hs)⟩
theorem ownTo_some : ∀ {l : List VMon} {page : Int} {i a b : Nat}, ownerTo l page i = some (a, b) → ∃ u s, i ≤ a ∧ l[a - i]? = some u ∧ u.Outer[b]? = some s ∧ s.Page = page
 | [], _, _, _, _, h => by cases h
 | x :: l, page, i, a, b, h => by
  unfold ownerTo at h
  cases h1 : ownerIn x.Outer page with
  | some p =>
   rw [h1] at h
   simp only [Option.some.injEq, Prod.mk.injEq] at h
   obtain ⟨s, h2, h3⟩ := ownIn_some h1
   exact ⟨x, s, by omega, by rw [← h.1, Nat.sub_self]; rfl, by rw [← h.2]; exact h2, h3⟩
  | none =>
   rw [h1] at h
   obtain ⟨u, s, h2, h3, h4⟩ := ownTo_some h
   exact ⟨u, s, by omega, by rw [show a - i = (a - (i + 1)) + 1 by omega]; exact h3, h4⟩
theorem ownTo_none : ∀ {l : List VMon} {page : Int} {i : Nat}, (∀ u ∈ l, ∀ s ∈ u.Outer, ¬ s.Page = page) → ownerTo l page i = none
 | [], _, _, _ => rfl
 | x :: l, page, i, h => by
  unfold ownerTo
  rw [ownIn_none.2 (h x List.mem_cons_self)]
  exact ownTo_none fun u hu => h u (List.mem_cons_of_mem _ hu)
theorem owner_some {h : VHost} {page : Int} {a b : Nat} (ho : ownerOfPage h page = some (a, b)) : ∃ u s, h.Mons[a]? = some u ∧ u.Outer[b]? = some s ∧ s.Page = page ∧ 0 ≤ page := by
 unfold ownerOfPage at ho
 split at ho
 ·obtain ⟨u, s, _, h1, h2, h3⟩ := ownTo_some ho
  exact ⟨u, s, h1, h2, h3, by assumption⟩
 ·cases ho
theorem free_none {h : VHost} (hm : h.Memory.length = 12) (hf : freeIn h = []) : ∃ a b, ownerOfPage h 0 = some (a, b) := by
 cases ho : ownerOfPage h 0 with
 | some q => exact ⟨q.1, q.2, rfl⟩
 | none =>
  have h1 : freeB h 0 = true := by
   unfold freeB
   rw [show ((0 : Nat) : Int) = 0 from rfl, ho]
   rfl
  have h2 : (0 : Int) ∈ freeIn h := by
   unfold freeIn rangeF
   rw [hm]
   exact List.mem_map.2 ⟨0, List.mem_filter.2 ⟨by simp, h1⟩, rfl⟩
  rw [hf] at h2
  cases h2
theorem sent_mem {h : VHost} {a b : Nat} {u : VMon} {s : VSlot} (hu : h.Mons[a]? = some u) (hs : u.Outer[b]? = some s) : (sendOut h a b).Memory = h.Memory ∧ (sendOut h a b).Mons = h.Mons.set a { u with Tables := lessKept { u with Out := u.Out.set b (pageAt h.Memory s.Page) } b, Out := u.Out.set b (pageAt h.Memory s.Page), Outer := u.Outer.set b noSlot } := by
 rw [← out_eq hu hs]
 refine ⟨rfl, ?_⟩
 show ((h.Mons.set a _).set a _) = _
 rw [List.set_set]
 rfl
theorem sent_free {h : VHost} {a b : Nat} (hh : Alone h) (ho : ownerOfPage h 0 = some (a, b)) : ownerOfPage (sendOut h a b) 0 = none := by
 obtain ⟨u, s, hu, hs, hp, _⟩ := owner_some ho
 rw [own_on (Int.le_refl 0), (sent_mem hu hs).2]
 refine ownTo_none fun y hy t ht he => ?_
 obtain ⟨j, hj⟩ := List.getElem?_of_mem hy
 obtain ⟨k, hk⟩ := List.getElem?_of_mem ht
 rw [List.getElem?_set] at hj
 split at hj
 ·split at hj
  ·simp only [Option.some.injEq] at hj
   rw [← hj] at hk
   rw [show ∀ a b c, (VMon.mk (u.Outer.set b noSlot) a u.Dirty u.Guests u.Outs u.Pending u.Traps c u.Own).Outer = u.Outer.set b noSlot from fun _ _ _ => rfl, List.getElem?_set] at hk
   split at hk
   ·split at hk
    ·simp only [Option.some.injEq] at hk
     rw [← hk] at he
     cases he
    ·cases hk
   ·exact absurd (alone_2 hh hu hs hk (by omega) (by omega)) (by assumption)
  ·cases hj
 ·exact absurd (alone_1 hh hu hj (pg_in hs (by omega)) (by rw [show s.Page = t.Page by omega]; exact pg_in hk (by omega))) (by assumption)
theorem free_some {h : VHost} (hm : h.Memory.length = 12) (ho : ownerOfPage h 0 = none) : ∃ l, freeIn h = 0 :: l := by
 have h1 : freeB h 0 = true := by
  unfold freeB
  rw [show ((0 : Nat) : Int) = 0 from rfl, ho]
  rfl
 unfold freeIn rangeF
 rw [hm]
 exact ⟨_, by simp [List.range, List.range.loop, h1]; rfl⟩
theorem shp_sent {h : VHost} {a b : Nat} {u : VMon} {s : VSlot} (hh : Shp h) (hu : h.Mons[a]? = some u) (hs : u.Outer[b]? = some s) : Shp (sendOut h a b) := by
 rw [← out_eq hu hs]
 have hm : SmMon (monOut h u b s) := sm_monOut hh.1 (hh.sm hu)
 have hn : ShM (monOut h u b s) := by
  have := hh.mon hu
  exact ⟨this.1, by show (u.Out.set _ _).length = 8; rw [List.length_set]; exact this.2.1, this.2.2.1, this.2.2.2⟩
 exact shp_slot (shp_set hh hm hn) hm hn
theorem sent_at {h : VHost} {a b m p : Nat} {u x : VMon} {s z : VSlot} (hu : h.Mons[a]? = some u) (hs : u.Outer[b]? = some s) (hx : h.Mons[m]? = some x) (hz : x.Outer[p]? = some z) (h1 : z.Page = -1) (h2 : ¬ s.Page = -1) :
  ∃ y, (sendOut h a b).Mons[m]? = some y ∧ y.Outer[p]? = some z ∧ y.Out[p]? = x.Out[p]? := by
 rw [(sent_mem hu hs).2]
 by_cases hm : a = m
 ·subst hm
  rw [hu] at hx
  cases hx
  refine ⟨_, set_at hu, ?_, ?_⟩
  ·rw [show ∀ a b c, (VMon.mk (u.Outer.set b noSlot) a u.Dirty u.Guests u.Outs u.Pending u.Traps c u.Own).Outer = u.Outer.set b noSlot from fun _ _ _ => rfl, List.getElem?_set, if_neg (fun e => by subst e; rw [hs] at hz; cases hz; exact h2 h1)]
   exact hz
  ·show (u.Out.set b _)[p]? = _
   rw [List.getElem?_set, if_neg (fun e => by subst e; rw [hs] at hz; cases hz; exact h2 h1)]
 ·rw [List.getElem?_set, if_neg hm]
  exact ⟨x, hx, hz, rfl⟩
theorem room_no {h : VHost} (hf : ¬ freeIn h = []) : roomFor h = h := by
 unfold roomFor
 split
 ·exact absurd (by assumption) hf
 ·rfl
theorem room_yes {h : VHost} {a b : Nat} (hf : freeIn h = []) (ho : ownerOfPage h 0 = some (a, b)) : roomFor h = sendOut h a b := by
 unfold roomFor
 rw [hf, ho]
theorem free_nn {h : VHost} {t : Int} {l : List Int} (hm : h.Memory.length = 12) (hf : freeIn h = t :: l) : 0 ≤ t ∧ t < 12 := by
 have h1 : t ∈ freeIn h := by rw [hf]; exact List.mem_cons_self
 have h2 := mem_rangeF h1
 omega
structure Room (h : VHost) (m p : Nat) (x : VMon) (z : VSlot) (t : Int) (l : List Int) : Prop where
 hs : Shp h
 hx : h.Mons[m]? = some x
 hz : x.Outer[p]? = some z
 hf : freeIn h = t :: l
 ht : 0 ≤ t ∧ t < 12
theorem room_at {h : VHost} {m p : Nat} {x : VMon} {z : VSlot} (hs : Shp h) (ha : Alone h) (hx : h.Mons[m]? = some x) (hz : x.Outer[p]? = some z) (h1 : z.Page = -1) : ∃ y t l, Room (roomFor h) m p y z t l ∧ y.Out[p]? = x.Out[p]? := by
 by_cases hf : freeIn h = []
 ·obtain ⟨a, b, ho⟩ := free_none hs.2.1 hf
  obtain ⟨u, s, hu, hw, hp, _⟩ := owner_some ho
  rw [room_yes hf ho]
  have hq := shp_sent hs hu hw
  obtain ⟨y, h2, h3, h4⟩ := sent_at hu hw hx hz h1 (by omega)
  obtain ⟨l, hl⟩ := free_some hq.2.1 (sent_free ha ho)
  exact ⟨y, 0, l, ⟨hq, h2, h3, hl, by omega⟩, h4⟩
 ·rw [room_no hf]
  cases hl : freeIn h with
  | nil => exact absurd hl hf
  | cons t l => exact ⟨x, t, l, ⟨hs, hx, hz, hl, free_nn hs.2.1 hl⟩, rfl⟩
end Go.Proofs.Ytcmoifejjodgcaa.T

namespace Go.Proofs.Ytcmoifejjodgcaa.T
open Go
set_option linter.unusedVariables false
set_option linter.unusedSimpArgs false
section
variable {P : Program} {w0 w w' : World} {g0 g g' : Gh} {st : St} {a : Act}
end
def FunA (P : Program) (f : FuncId) (pts : List TS) (t : TS) : Prop :=
 ∀ (w : World) (g : Gh) (args : Array Value), (∀ b, b < w.heap.size → g.o b = .ro ∨ g.o b = .outer) → (∀ b, w.heap.size ≤ b → g.o b = .outer) → args.size = pts.length →
  (∀ (i : Nat) t u, pts[i]? = some t → args[i]? = some u → RepS w g t u) →
  Calls P f args w fun e w' => ∃ v g', e = .returned v ∧ Later w w' ∧ (∀ b, g'.o b = .ro → (b < w.heap.size ∧ g.o b = .ro) ∨ (w.heap.size ≤ b ∧ b < w'.heap.size)) ∧ RepS w' g' t v
inductive FrzV (st : St) : TV → TV → Prop
 | c {x x' : C} (h : SnapC st x x') : FrzV st (.c x) (.c x')
 | agg {l l' : List C} (h : SnapCs st l l') : FrzV st (.agg l) (.agg l')
 | cptr (ds : List D) : FrzV st (.cptr ds) (.cptr ds)
inductive FrzVs (st : St) : List TV → List TV → Prop
 | nil : FrzVs st [] []
 | cons {t t' : TV} {l l' : List TV} (h : FrzV st t t') (hl : FrzVs st l l') : FrzVs st (t :: l) (t' :: l')
theorem FrzVs.get {st : St} {ts ts' : List TV} (h : FrzVs st ts ts') : ts'.length = ts.length ∧ ∀ (i : Nat) t', ts'[i]? = some t' → ∃ t, ts[i]? = some t ∧ FrzV st t t' := by
 induction h with
 | nil => exact ⟨rfl, fun i t' hi => by simp at hi⟩
 | cons h hs ih =>
  refine ⟨by simp [ih.1], fun i t' hi => ?_⟩
  cases i with
  | zero =>
   simp only [List.getElem?_cons_zero, Option.some.injEq] at hi
   subst hi
   exact ⟨_, rfl, h⟩
  | succ i => exact ih.2 i t' (by simpa using hi)
def EndsA (P : Program) (fn : Func) (t : TS) (e : Exit) (st : St) : Prop :=
 (e = .normal ∨ e = .ret) ∧ ∃ (rvs : List ResultVar) (tvs tvs' : List TV), fn.results = rvs.toArray ∧ rvs.length ≤ 4 ∧ rvs.map (resTV P st) = tvs.map some ∧ FrzVs st tvs tvs' ∧ t = resT tvs'
section
variable {P : Program}
theorem FunA.of {f : FuncId} {fn : Func} {c : Code} {pts : List TS} {t : TS} (hf : P.funcs[f]? = some fn) (hb : fn.body = some c) (hn : pts.length ≤ fn.ntmps)
  (h : ∀ (w : World) (g0 : Gh), TC P w g0 c ⟨pts ++ List.replicate (fn.ntmps - pts.length) (.one .dead), []⟩ (EndsA P fn t)) : FunA P f pts t := by
 intro w g args hg hg2 hsz hargs
 refine calls_of_wp hf hb (wp_mono (h w g _ w g ⟨fun i tv hi => ?_, ?_, rfl, ⟨fun k r hk => ?_, fun k r hk => ?_⟩, ⟨rfl, rfl, rfl, Nat.le_refl _, fun b hb _ => ⟨rfl, rfl⟩, fun b hb => hg2 b hb, fun b hb ho => ⟨hb, ho⟩, ⟨fun _ => rfl, rfl⟩, fun b => ?_⟩⟩) fun e a w' ⟨st, g', hE, hR⟩ => ?_)
 ·by_cases hlt : i < pts.length
  ·rw [List.getElem?_append_left hlt] at hi
   have hi' : i < args.size := by omega
   have h1 : (args ++ Array.replicate (fn.ntmps - args.size) undef).getD i undef = args[i] := by
    rw [Array.getD_eq_getD_getElem?, Array.getElem?_append_left hi', Array.getElem?_eq_getElem hi']
    rfl
   show RepS w g tv ((args ++ Array.replicate (fn.ntmps - args.size) undef).getD i undef)
   rw [h1]
   exact hargs i tv _ hi (Array.getElem?_eq_getElem hi')
  ·rw [List.getElem?_append_right (by omega), List.getElem?_replicate] at hi
   split at hi
   ·simp only [Option.some.injEq] at hi
    subst hi
    exact .one _ _ (.dead _)
   ·cases hi
 ·show (args ++ Array.replicate (fn.ntmps - args.size) undef).size = _
  simp [hsz]
 ·simp [St.root] at hk
 ·simp [St.root] at hk
 ·rcases Nat.lt_or_ge b w.heap.size with h1 | h1
  ·rcases hg b h1 with h2 | h2 <;> rw [h2] <;> simp
  ·rw [hg2 b h1]; simp
 ·obtain ⟨he, rvs, tvs, tvs', h1, h2, h3, h4, h5⟩ := hE
  have hlen : rvs.length = tvs.length := by
   have := congrArg List.length h3
   simpa using this
  obtain ⟨us, hul, hur, hrep⟩ := hR.resultList h3
  have hrun := run_results (P := P) h1 h2 a.tmps w' hul hur
  have hL : Later w w' := ⟨hR.ks.os, hR.ks.tape, hR.ks.output, hR.ks.size, fun b hb => (hR.ks.block b hb (hg b hb)).1⟩
  let gf : Gh := { g' with o := fun b => if b < w.heap.size then g.o b else if b < w'.heap.size then .ro else .outer }
  have hgf : ∀ b, g'.o b = .ro → gf.o b = .ro ∧ w'.heap[b]? = w'.heap[b]? := fun b hb => by
   refine ⟨?_, rfl⟩
   show (if b < w.heap.size then g.o b else if b < w'.heap.size then Tag.ro else Tag.outer) = .ro
   rcases Nat.lt_or_ge b w.heap.size with h6 | h6
   ·rw [if_pos h6, ← (hR.ks.block b h6 (hg b h6)).2]; exact hb
   ·rw [if_neg (by omega)]
    rcases Nat.lt_or_ge b w'.heap.size with h7 | h7
    ·rw [if_pos h7]
    ·rw [hR.ks.fresh b h7] at hb; cases hb
  have hroot : ∀ k b, (g'.o b).root? = some k → b < w'.heap.size → gf.o b = .ro := fun k b hb h7 => by
   show (if b < w.heap.size then g.o b else if b < w'.heap.size then Tag.ro else Tag.outer) = .ro
   rcases Nat.lt_or_ge b w.heap.size with h6 | h6
   ·rw [(hR.ks.block b h6 (hg b h6)).2] at hb
    rcases hg b h6 with h8 | h8 <;> rw [h8] at hb <;> cases hb
   ·rw [if_neg (by omega), if_pos h7]
  have hC : ∀ c c' u, SnapC st c c' → RepV w' g' c u → RepV w' gf c' u := fun c c' u hs hv => by
   cases hs with
   | ro d => exact Ro.mono hgf hv
   | ref h hw =>
    have h8 : u = _ := hv.1
    rw [h8]
    exact ((hR.cellAt h).1 _ rfl).roAt hw fun b hb hlt => hroot _ b hb hlt
  have hV : ∀ t t' u, FrzV st t t' → RepT w' g' t u → RepT w' gf t' u := fun t t' u hs hv => by
   cases hs with
   | c h => cases hv with | c _ _ hv => exact .c _ _ (hC _ _ _ h hv)
   | @agg l0 l1 h =>
    cases hv with
    | agg _ us hsz hv =>
     obtain ⟨h6, h7⟩ := h.get
     refine .agg _ us (by rw [h6]; exact hsz) fun j c' u hj hu => ?_
     have hj' : j < l0.length := by rw [← h6]; exact (List.getElem?_eq_some_iff.1 hj).1
     exact hC _ _ _ (h7 j _ c' (List.getElem?_eq_getElem hj') hj) (hv j _ u (List.getElem?_eq_getElem hj') hu)
   | cptr ds => cases hv with | cptr _ b off us ho hcell => exact .cptr ds b off us (hgf b ho).1 fun j d hj => ⟨(hcell j d hj).1, (hcell j d hj).2.mono hgf⟩
  have h6 := h4.get
  have hrep' : ∀ (i : Nat) t u, tvs'[i]? = some t → us[i]? = some u → RepT w' gf t u := fun i t u hi hu => by
   obtain ⟨t0, h7, h8⟩ := h6.2 i t hi
   exact hV _ _ _ h8 (hrep i t0 u h7 hu)
  have ho : ∀ b, gf.o b = .ro → (b < w.heap.size ∧ g.o b = .ro) ∨ (w.heap.size ≤ b ∧ b < w'.heap.size) := fun b hb => by
   have hb : (if b < w.heap.size then g.o b else if b < w'.heap.size then Tag.ro else Tag.outer) = .ro := hb
   rcases Nat.lt_or_ge b w.heap.size with h6 | h6
   ·rw [if_pos h6] at hb
    exact .inl ⟨h6, hb⟩
   ·rw [if_neg (by omega)] at hb
    rcases Nat.lt_or_ge b w'.heap.size with h7 | h7
    ·exact .inr ⟨h6, h7⟩
    ·rw [if_neg (by omega)] at hb; cases hb
  have hval : RepS w' gf (resT tvs') (tupV us) := by
   have htup : ∀ l : List Value, l.length = tvs'.length → (∀ (i : Nat) t u, tvs'[i]? = some t → l[i]? = some u → RepT w' gf t u) → RepS w' gf (.tup tvs') (.tuple l.toArray) := fun l hl hh =>
    .tup _ _ (by simp [hl]) fun j t u hj hu => hh j t u hj (by simpa using hu)
   have hl := htup us (by rw [h6.1]; omega) hrep'
   have hlu : us.length = tvs'.length := by rw [h6.1]; omega
   clear hrun hur h3 h4 h5 h6 hrep
   match us, tvs', hlu with
   | [], [], _ => exact hl
   | [t], [tv], _ => exact .one _ _ (hrep' 0 tv _ rfl rfl)
   | _ :: _ :: _, _ :: _ :: _, _ => exact hl
  have hfin : ∃ v, (results fn a.tmps).run P w' = .ok v w' ∧ ∃ v_1 g', Ending.returned v = Ending.returned v_1 ∧ Later w w' ∧ (∀ b, g'.o b = .ro → (b < w.heap.size ∧ g.o b = .ro) ∨ (w.heap.size ≤ b ∧ b < w'.heap.size)) ∧ RepS w' g' t v_1 :=
   ⟨_, hrun, _, gf, rfl, hL, ho, by rw [h5]; exact hval⟩
  rcases he with rfl | rfl
  ·exact ⟨hR.df, hfin⟩
  ·exact ⟨hR.df, hfin⟩
variable {w0 : World} {g0 : Gh} {st : St}
end
def frzW (rs : Rs) (t : TV) (k : TV → Prop) : Prop := match t with
 | .c c => snapCW rs c fun c => k (.c c)
 | .agg cs => snapCsW rs cs fun cs => k (.agg cs)
 | .cptr ds => k (.cptr ds)
 | _ => False
def frzsW (rs : Rs) : List TV → (List TV → Prop) → Prop
 | [], k => k []
 | t :: l, k => frzW rs t fun t => frzsW rs l fun l => k (t :: l)
theorem frzW_of {n : Nat} {e : List En} {rs : Rs} {t : TV} {k : TV → Prop} (h : frzW rs t k) : ∃ t', FrzV (stOf n e rs) t t' ∧ k t' := by
 unfold frzW at h
 split at h
 ·obtain ⟨c', h1, h2⟩ := snapCW_of (n := n) (e := e) h
  exact ⟨_, .c h1, h2⟩
 ·obtain ⟨c', h1, h2⟩ := snapCsW_of (n := n) (e := e) h
  exact ⟨_, .agg h1, h2⟩
 ·exact ⟨_, .cptr _, h⟩
 ·exact h.elim
theorem frzsW_of {n : Nat} {e : List En} {rs : Rs} : ∀ {l : List TV} {k : List TV → Prop}, frzsW rs l k → ∃ l', FrzVs (stOf n e rs) l l' ∧ k l'
 | [], k, h => ⟨[], .nil, h⟩
 | t :: l, k, h => by
  obtain ⟨t', h1, h2⟩ := frzW_of (n := n) (e := e) h
  obtain ⟨l', h3, h4⟩ := frzsW_of (l := l) h2
  exact ⟨_, .cons h1 h3, h4⟩
def endAR (P : Program) (n : Nat) (rv : List ResultVar) (t : TS) (e : List En) (rs : Rs) : Prop := ressW P n e rs rv fun tvs => BR (Nat.ble rv.length 4) (frzsW rs tvs fun tvs => t = resT tvs) False
def endA (P : Program) (n : Nat) (rv : List ResultVar) (t : TS) : Kx := fun ex e rs => match ex with
 | .normal => endAR P n rv t e rs
 | .ret => endAR P n rv t e rs
 | _ => False
theorem endA_of {P : Program} {n : Nat} {fn : Func} {t : TS} {ex : Exit} {st : St} (h : Lf n (endA P n fn.results.toList t) ex st) : EndsA P fn t ex st := by
 obtain ⟨e, rs, rfl, h⟩ := h
 have key : endAR P n fn.results.toList t e rs → ∀ ex, (ex = .normal ∨ ex = .ret) → EndsA P fn t ex (stOf n e rs) := fun h ex hex => by
  obtain ⟨tvs, h1, h2⟩ := ressW_of h
  obtain ⟨h3, h4⟩ := BR_yes h2
  obtain ⟨tvs', h5, h6⟩ := frzsW_of (n := n) (e := e) h4
  exact ⟨hex, fn.results.toList, tvs, tvs', rfl, Nat.le_of_ble_eq_true h3, h1, h5, h6⟩
 unfold endA at h
 split at h
 ·exact key h _ (.inl rfl)
 ·exact key h _ (.inr rfl)
 ·exact h.elim
theorem FunA.w {P : Program} {f : FuncId} {fn : Func} {c : Code} {pts : List TS} {t : TS} (n : Nat) (hf : P.funcs[f]? = some fn) (h : ∀ w g0, mostS pts → argsW 0 pts fun e => wC P w g0 n c e [] (endA P n fn.results.toList t))
  (hb : fn.body = some c := by exact rfl) (hn : fn.ntmps = n := by exact rfl) (hl0 : Nat.ble pts.length n = true := by exact rfl) : FunA P f pts t := by
 have hl := Nat.le_of_ble_eq_true hl0
 subst hn
 refine FunA.of hf hb hl fun w g0 => TC.mostS fun hM => ?_
 obtain ⟨e, h1, h2⟩ := argsW_of (m := 0) (h w g0 hM)
 rw [args_st hl h1]
 exact (wC_of h2).mono fun ex st hl => endA_of hl
end Go.Proofs.Ytcmoifejjodgcaa.T

