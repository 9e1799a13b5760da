
import Derived.Test.YtcmoifejjodgcaaPbp
import Derived.Test.YtcmoifejjodgcaaPlp
import Derived.Test.YtcmoifejjodgcaaRpp
namespace Go.Proofs.Ytcmoifejjodgcaa.T
open Go
set_option linter.unusedVariables false
set_option linter.unusedSimpArgs false
def SamG (l k : List VMon) : Prop := ∀ (m : Nat) (x : VMon), l[m]? = some x → ∃ y : VMon, k[m]? = some y ∧ y.Guests = x.Guests
theorem SamG.of {l : List VMon} : SamG l l := fun m x hx => ⟨x, hx, rfl⟩
theorem SamG.to {l k j : List VMon} (h1 : SamG l k) (h2 : SamG k j) : SamG l j := fun m x hx => by
 obtain ⟨y, hy, e⟩ := h1 m x hx
 obtain ⟨z, hz, e2⟩ := h2 m y hy
 exact ⟨z, hz, e2.trans e⟩
theorem same_set {l : List VMon} {m : Nat} {x y : VMon} (hx : l[m]? = some x) (hy : y.Guests = x.Guests) : SamG l (l.set m y) := fun i u hu => by
 rw [List.getElem?_set]
 by_cases hi : m = i
 ·subst hi
  rw [if_pos rfl, if_pos (List.getElem?_eq_some_iff.1 hx).1]
  rw [hx] at hu
  cases hu
  exact ⟨y, rfl, hy⟩
 ·rw [if_neg hi]
  exact ⟨u, hu, rfl⟩
theorem same_room {h : VHost} : SamG h.Mons (roomFor h).Mons := by
 by_cases hf : freeIn h = []
 ·cases ho : ownerOfPage h 0 with
  | none =>
   have : roomFor h = h := by unfold roomFor; rw [hf, ho]
   rw [this]
   exact .of
  | some q =>
   obtain ⟨a, b⟩ := q
   obtain ⟨u, s, hu, hw, _⟩ := owner_some ho
   rw [room_yes hf ho, (sent_mem hu hw).2]
   exact same_set hu rfl
 ·rw [room_no hf]
  exact .of
theorem same_fetch {h : VHost} {m p : Nat} {x : VMon} {z : VSlot} (hs : Shp h) (ha : Alone h) (hx : h.Mons[m]? = some x) (hz : x.Outer[p]? = some z) (h1 : z.Page = -1) : SamG h.Mons (fetchIn h m p).Mons := by
 obtain ⟨x1, t, l, hr, hyo⟩ := room_at hs ha hx hz h1
 have h8 := (hr.hs.mon hr.hx).2.1
 have hp : p < 8 := by have := (List.getElem?_eq_some_iff.1 hr.hz).1; have := (hr.hs.mon hr.hx).1; omega
 obtain ⟨y, hy⟩ : ∃ y, x1.Out[p]? = some y := ⟨_, List.getElem?_eq_getElem (by omega)⟩
 unfold fetchIn
 rw [take_in hr hy]
 refine same_room.to ?_
 show SamG _ (((roomFor h).Mons.set m _).set m _)
 rw [List.set_set]
 exact same_set hr.hx rfl
theorem same_soil {h : VHost} {m p : Nat} {x : VMon} {z : VSlot} (hx : h.Mons[m]? = some x) (hz : x.Outer[p]? = some z) : SamG h.Mons (soil h m p).Mons := by
 by_cases h1 : iand z.Rights 2 = 0
 ·rw [soil_yes hx hz h1]
  show SamG _ ((h.Mons.set m _).set m _)
  rw [List.set_set]
  exact same_set hx rfl
 ·rw [soil_no hx hz h1]
  exact same_set hx rfl
theorem same_mend {h : VHost} {m p : Nat} {x : VMon} {z : VSlot} {need : Int} (hs : Shp h) (ha : Alone h) (hx : h.Mons[m]? = some x) (hz : x.Outer[p]? = some z) : SamG h.Mons (mendP h m p need).Mons := by
 unfold mendP
 rw [slot_is hx hz]
 by_cases h1 : z.Page = -1
 ·have h2 := same_fetch hs ha hx hz h1
  obtain ⟨y, t, h3, h4, _⟩ := fetch_at hs ha hx hz h1
  simp only [if_pos h1]
  split
  ·exact h2
  ·exact h2.to (same_soil h3 h4)
 ·simp only [if_neg h1]
  split
  ·exact .of
  ·exact same_soil hx hz
theorem slot_range {t : List VSlot} {n : Nat} {pages p need q : Int} (ht : t.all (slotOk · pages) = true) (hq : walkInner t p need = some q) : 0 ≤ q ∧ q < pages := by
 unfold walkInner at hq
 split at hq
 ·cases hq
 ·rename_i h
  simp only [Option.some.injEq] at hq
  simp only [not_or] at h
  have h1 : slotAt t p ≠ noSlot := fun e => h.1 (by rw [e])
  have h2 : slotAt t p ∈ t := by
   unfold slotAt at h1 ⊢
   cases ha : at? t p with
   | none => rw [ha] at h1; exact absurd rfl h1
   | some s =>
    unfold at? at ha
    split at ha
    ·exact List.mem_of_getElem? ha
    ·cases ha
  have h3 := List.all_eq_true.1 ht _ h2
  simp only [slotOk, Bool.or_eq_true, Bool.and_eq_true, decide_eq_true_eq] at h3
  rcases h3 with h3 | h3
  ·exact absurd h3 h1
  ·have := h3.1.2
   omega
theorem walk_range {x : VGuest} {p need q : Int} (hx : guestOk x = true) (hq : walkInner x.Live p need = some q) : 0 ≤ q ∧ q < 8 := by
 simp only [guestOk, tableOk, Bool.and_eq_true] at hx
 exact slot_range (n := 0) hx.1.1.1.1.2.1 hq
theorem hasGuest_on {h : VHost} {m g : Int} : hasGuest h m g = true ↔ hostOk h = true ∧ (0 ≤ m ∧ m < h.Mons.length) ∧ 0 ≤ g ∧ g < (mon h m.toNat).Guests.length := by simp [hasGuest, and_assoc]
theorem mon_is2 {h : VHost} {m : Int} (h0 : 0 ≤ m ∧ m < h.Mons.length) : h.Mons[m.toNat]? = some (mon h m.toNat) := by
 have h1 : h.Mons[m.toNat]? = some (h.Mons[m.toNat]'(by omega)) := List.getElem?_eq_getElem (by omega)
 rw [mon_is h1]
 exact h1
theorem guest_is {h : VHost} {m g : Nat} {x : VMon} {y : VGuest} (hx : h.Mons[m]? = some x) (hy : x.Guests[g]? = some y) : guestOf h m g = y := by
 unfold guestOf
 rw [mon_is hx, hy]
 rfl
theorem kept_is {h : VHost} {m g : Nat} {x : VMon} {k : VKept} (hx : h.Mons[m]? = some x) (hk : x.Tables[g]? = some k) : kept h m g = k := by
 unfold kept
 rw [mon_is hx, hk]
 rfl
def dirtIf (h : VHost) (m q : Nat) (need : Int) : VHost := if need = 2 then setDirty h m q true else h
def hitOf (h : VHost) (io : Bool) (m g : Int) (page need : Int) : Option VEntry := (findEntry (bufOf h io) (tagFor m g) page).filter (fun e => enough e.Rights need)
theorem find_no {h : VHost} {m g page need : Int} {io : Bool} (hn : ¬ (hasGuest h m g = true ∧ (need = 1 ∨ need = 2))) : find h m g page need io = none := by
 unfold find
 rw [if_neg (by simpa using hn)]
theorem find_on {h : VHost} {m g page need : Int} {io : Bool} (hn : hasGuest h m g = true ∧ (need = 1 ∨ need = 2)) : find h m g page need io = (walkInner (guestOf h m.toNat g.toNat).Live page need).map fun q => findP h m.toNat g.toNat page need io q.toNat := by
 unfold find
 rw [if_pos (by simpa using hn)]
theorem toNat_up {m : Int} (h : 0 ≤ m) : ((m.toNat : Nat) : Int) = m := by omega
theorem findP_hit {h : VHost} {m g page need : Int} {io : Bool} {q : Nat} {e : VEntry} (h0 : 0 ≤ m) (h1 : 0 ≤ g) (he : hitOf (dirtIf h m.toNat q need) io m g page need = some e) : findP h m.toNat g.toNat page need io q = (dirtIf h m.toNat q need, e.Host) := by
 unfold hitOf dirtIf at he
 unfold findP
 rw [toNat_up h0, toNat_up h1]
 simp only [he]
 rfl
def putIn (h : VHost) (io : Bool) (m g : Int) (page : Int) (s : VSlot) : VHost := setBuf h io (putEntry (bufOf h io) ⟨tagFor m g, page, s.Page, s.Rights⟩)
theorem findP_miss {h : VHost} {m g page need : Int} {io : Bool} {q : Nat} {h1 : VHost} {s : VSlot} (h0 : 0 ≤ m) (hg : 0 ≤ g) (he : hitOf (dirtIf h m.toNat q need) io m g page need = none) (hf : filled (dirtIf h m.toNat q need) m.toNat g.toNat page q need = h1) (hs : (ask (kept h1 m.toNat g.toNat) page).getD noSlot = s) : findP h m.toNat g.toNat page need io q = (putIn h1 io m g page s, s.Page) := by
 subst hf hs
 unfold hitOf dirtIf at he
 unfold findP
 rw [toNat_up h0, toNat_up hg]
 simp only [he]
 rfl
theorem filled_no {h : VHost} {m g : Nat} {page need : Int} {q : Nat} (hl : lets (ask (kept h m g) page) need = true) : filled h m g page q need = h := if_pos hl
theorem filled_yes {h : VHost} {m g : Nat} {page need : Int} {q : Nat} {x : VMon} {k : VKept} {y : VGuest} (hl : lets (ask (kept h m g) page) need = false) (hx : (mendP h m q need).Mons[m]? = some x) (hk : x.Tables[g]? = some k) (hy : x.Guests[g]? = some y) :
  filled h m g page q need = { mendP h m q need with Mons := (mendP h m q need).Mons.set m { x with Tables := x.Tables.set g (fillK k y.Live x.Outer page) } } := by
 unfold filled
 rw [if_neg (by rw [hl]; decide)]
 simp only [kept_is hx hk, guest_is hx hy, mon_is hx]
 unfold setTable setMon
 rw [mon_is hx]
structure Seek (h : VHost) (m g : Nat) (q : Nat) (x : VMon) (z : VSlot) (k : VKept) (y : VGuest) : Prop where
 hs : Shp h
 ha : Alone h
 hx : h.Mons[m]? = some x
 hz : x.Outer[q]? = some z
 hzr : SlR z
 hk : x.Tables[g]? = some k
 hy : x.Guests[g]? = some y
theorem alone_dirt {h : VHost} {m q : Nat} {x : VMon} (hh : Alone h) (hx : h.Mons[m]? = some x) : Alone (soilH h m x q) := by
 have e : (soilH h m x q).Mons.flatMap pagesIn = h.Mons.flatMap pagesIn := by
  show (h.Mons.set m (soilM x q)).flatMap pagesIn = _
  rw [List.flatMap_def, List.flatMap_def, List.map_set]
  congr 1
  apply List.ext_getElem?
  intro i
  rw [List.getElem?_set]
  by_cases hi : m = i
  ·subst hi
   have hm := (List.getElem?_eq_some_iff.1 hx).1
   rw [if_pos rfl, if_pos (by rw [List.length_map]; exact hm), List.getElem?_map, hx]
   rfl
  ·rw [if_neg hi]
 unfold Alone
 rw [e]
 exact hh
theorem seek_at {h : VHost} {m g : Int} {page need q : Int} (hg : hasGuest h m g = true) (h2 : SmHost h) (hq : 0 ≤ q ∧ q < 8) : ∃ x z k y, Seek (dirtIf h m.toNat q.toNat need) m.toNat g.toNat q.toNat x z k y ∧ y = guestOf h m.toNat g.toNat := by
 have h3 := hasGuest_on.1 hg
 have hx := mon_is2 h3.2.1
 have hmo := mon_outer (host_mon h3.1 hx)
 have hs := shp_ok h3.1 h2
 have ha := alone_ok h3.1
 obtain ⟨z, hz⟩ : ∃ z, (mon h m.toNat).Outer[q.toNat]? = some z := ⟨_, List.getElem?_eq_getElem (by omega)⟩
 obtain ⟨k, hk⟩ : ∃ k, (mon h m.toNat).Tables[g.toNat]? = some k := ⟨_, List.getElem?_eq_getElem (by omega)⟩
 obtain ⟨y, hy⟩ : ∃ y, (mon h m.toNat).Guests[g.toNat]? = some y := ⟨_, List.getElem?_eq_getElem (by omega)⟩
 have hzr : SlR z := by
  rcases hmo.2.2.2.2.2 z (List.mem_of_getElem? hz) with rfl | h4
  ·exact ⟨by decide, by decide, fun _ => rfl⟩
  ·exact ⟨by omega, by omega, fun e => by omega⟩
 unfold dirtIf
 split
 ·rw [dirtT_eq hx]
  exact ⟨_, z, k, y, ⟨shp_soilH hs hx, alone_dirt ha hx, set_at hx, hz, hzr, hk, hy⟩, (guest_is hx hy).symm⟩
 ·exact ⟨_, z, k, y, ⟨hs, ha, hx, hz, hzr, hk, hy⟩, (guest_is hx hy).symm⟩
end Go.Proofs.Ytcmoifejjodgcaa.T

namespace Go.Proofs.Ytcmoifejjodgcaa.T
open Go
set_option linter.unusedVariables false
structure JW (P : Program) (w0 : World) (g0 : Gh) (n : Nat) (c : Code) (e : List En) (rs : Rs) (K : Kx) : Prop where
 h : TC P w0 g0 c (stOf n e rs) (Lf n K)
theorem JW.w {P : Program} {w0 : World} {g0 : Gh} {n : Nat} {c : Code} {e : List En} {rs : Rs} {K : Kx} (h : wC P w0 g0 n c e rs K) : JW P w0 g0 n c e rs K := ⟨wC_of h⟩
def preC : Nat → Code → Option (Code × Code)
 | 0, c => some (.skip, c)
 | k + 1, .seq a b => match preC k b with
  | some (p, r) => some (.seq a p, r)
  | none => none
 | _, _ => none
theorem pre_of {P : Program} {w0 : World} {g0 : Gh} {n : Nat} {N : Kx} {Q : Exit → St → Prop} (hN : ∀ ex e' rs', N ex e' rs' → ex ≠ .normal → Q ex (stOf n e' rs')) : ∀ {k : Nat} {c p r : Code} {e : List En} {rs : Rs}, preC k c = some (p, r) → wC P w0 g0 n p e rs N → (∀ e' rs', N .normal e' rs' → TC P w0 g0 r (stOf n e' rs') Q) → TC P w0 g0 c (stOf n e rs) Q
 | 0, c, p, r, e, rs, hp, h, hr => by
  simp only [preC, Option.some.injEq, Prod.mk.injEq] at hp
  obtain ⟨rfl, rfl⟩ := hp
  exact hr e rs h
 | k + 1, .seq a b, p, r, e, rs, hp, h, hr => by
  unfold preC at hp
  cases hq : preC k b with
  | none => rw [hq] at hp; cases hp
  | some q =>
   rw [hq] at hp
   obtain ⟨p', r'⟩ := q
   simp only [Option.some.injEq, Prod.mk.injEq] at hp
   obtain ⟨rfl, rfl⟩ := hp
   have h : wC P w0 g0 n a e rs (seqK (wC P w0 g0 n p') N) := h
   refine TC.seq ((wC_of h).mono fun ex st ⟨e', rs', hs, hk⟩ => ?_)
   subst hs
   cases ex with
   | normal => exact pre_of hN hq hk hr
   | _ => exact hN _ _ _ hk (by intro e; cases e)
 | k + 1, .skip, _, _, _, _, hp, _, _ => by cases hp
 | k + 1, .region .., _, _, _, _, hp, _, _ => by cases hp
 | k + 1, .cond .., _, _, _, _, hp, _, _ => by cases hp
 | k + 1, .block .., _, _, _, _, hp, _, _ => by cases hp
 | k + 1, .loop .., _, _, _, _, hp, _, _ => by cases hp
 | k + 1, .rangeFunc .., _, _, _, _, hp, _, _ => by cases hp
 | k + 1, .exit .., _, _, _, _, hp, _, _ => by cases hp
 | k + 1, .scope .., _, _, _, _, hp, _, _ => by cases hp
 | k + 1, .label .., _, _, _, _, hp, _, _ => by cases hp
 | k + 1, .goto .., _, _, _, _, hp, _, _ => by cases hp
 | k + 1, .ret, _, _, _, _, hp, _, _ => by cases hp
 | k + 1, .refuse .., _, _, _, _, hp, _, _ => by cases hp
theorem JW.cut {P : Program} {w0 : World} {g0 : Gh} {n : Nat} {c p r : Code} {e : List En} {rs : Rs} {K : Kx} {α : Type} (k : Nat) (js vs xs : List Nat) (mods : α → List En) (rts : α → Rs) (inv : α → Prop) (hp : preC k c = some (p, r))
  (h : keepE n e js fun ke => exceptW xs rs fun kr =>
   (∀ N : Kx, (∀ ex e' rs', RoundW (fun e' rs' => ∃ x, inv x ∧ HeadA e' rs' vs (mods x ++ ke) (rts x ++ kr)) K ex e' rs' → N ex e' rs') → wC P w0 g0 n p e rs N) ∧
   ∀ x, inv x → appW (mods x) ke fun E => appW (rts x) kr fun R => JW P w0 g0 n r E R K) : JW P w0 g0 n c e rs K := ⟨by
 obtain ⟨ke, h⟩ := keepE_of h
 obtain ⟨kr, h1, h2⟩ := exceptW_of h
 refine pre_of (N := RoundW (fun e' rs' => ∃ x, inv x ∧ HeadA e' rs' vs (mods x ++ ke) (rts x ++ kr)) K) (fun ex e' rs' hr hn => ?_) hp (h1 _ fun ex e' rs' hr => hr) fun e' rs' hr => ?_
 ·cases ex with
  | normal => exact absurd rfl hn
  | _ => exact .mk hr
 ·obtain ⟨x, h3, h4⟩ := hr
  exact TC.can h4.can (appW_of (appW_of (h2 x h3))).h⟩
end Go.Proofs.Ytcmoifejjodgcaa.T

namespace Go.Proofs.Ytcmoifejjodgcaa.T
open Go
set_option linter.unusedVariables false
set_option linter.unusedSimpArgs false
set_option maxRecDepth 100000
set_option maxHeartbeats 8000000
theorem lv_same {α : Type} {l : List α} {i : Nat} {x : α} (h : l[i]? = some x) : l.set i x = l := by
 apply List.ext_getElem?
 intro j
 rw [List.getElem?_set]
 by_cases hj : i = j
 ·subst hj
  rw [if_pos rfl, if_pos (List.getElem?_eq_some_iff.1 h).1, h]
 ·rw [if_neg hj]
def ownIf (x : VMon) (o : Int) : VMon := if o = 2 then ownUp x else x
theorem lv_ownsm {x : VMon} {o : Int} (h : SmMon x) : SmMon (ownIf x o) := by
 unfold ownIf ownUp
 repeat' split
 all_goals exact h
theorem lv_outsm {x : VMon} {n : Int} (h : SmMon x) : SmMon (outUp x n) := by
 unfold outUp
 split
 ·exact ⟨h.1, h.2.1, h.2.2.1, h.2.2.2.1, by show (x.Outs ++ [n]).length ≤ _; rw [List.length_append]; simp; omega, h.2.2.2.2.2⟩
 ·exact h
abbrev ownerX (x : VMon) (u : VGuest) (w : Int) : Int := ownerOf x.Traps u.Ctl.Traps (trapOf w)
abbrev putX (u : VGuest) : Int := (insAt u.Prog u.Pc).X
theorem lv_in {x : VMon} {g : Nat} {u : VGuest} {w : Int} (h : ownerX x u w = 1) : leftBy x g u w = { x with Guests := x.Guests.set g (trapped u w) } := by
 unfold leftBy
 exact if_pos h
theorem lv_halt {x : VMon} {g : Nat} {u : VGuest} {w : Int} (h : ¬ ownerX x u w = 1) (hw : w = 7) : leftBy x g u w = { ownIf x (ownerX x u w) with Guests := (ownIf x (ownerX x u w)).Guests.set g (held u) } := by
 unfold leftBy ownIf
 simp only [if_neg h, if_pos hw]
theorem lv_out {x : VMon} {g : Nat} {u : VGuest} {w : Int} (h : ¬ ownerX x u w = 1) (hw : ¬ w = 7) : leftBy x g u w = { outUp (ownIf x (ownerX x u w)) (putX u) with Guests := (outUp (ownIf x (ownerX x u w)) (putX u)).Guests.set g (moved u) } := by
 unfold leftBy ownIf
 simp only [if_neg h, if_neg hw]
end Go.Proofs.Ytcmoifejjodgcaa.T

namespace Go.Proofs.Ytcmoifejjodgcaa.T
open Go
set_option linter.unusedVariables false
set_option linter.unusedSimpArgs false
set_option maxRecDepth 100000
set_option maxHeartbeats 8000000
theorem pagesTo_next (h : VHost) (m : Int) (i : Nat) : pagesTo h m (i + 1) = pagesTo h m i ++ [pageOf h m i] := by
 unfold pagesTo
 rw [List.range_succ, List.map_append]
 rfl
theorem pagesTo_map (h : VHost) (m : Int) (i : Nat) : (pagesTo h m (i + 1)).map dIntS = (pagesTo h m i).map dIntS ++ [dIntS (pageOf h m i)] := by rw [pagesTo_next, List.map_append]; rfl
theorem pagesTo_len (h : VHost) (m : Int) (i : Nat) : (pagesTo h m i).length = i := by unfold pagesTo; simp
theorem seen_no {h : VHost} {m : Int} (hm : (monAt h m).isSome = false) : seenAs h m = noBare := by
 unfold seenAs
 cases e : monAt h m with
 | none => rfl
 | some x => rw [e] at hm; cases hm
theorem seen_yes {h : VHost} {m : Int} (hm : (monAt h m).isSome = true) : seenAs h m = ⟨pagesTo h m 8, (monOr h m).Guests, (monOr h m).Outs, (monOr h m).Pending⟩ := by
 unfold seenAs monOr
 cases e : monAt h m with
 | none => rw [e] at hm; cases hm
 | some x => rfl
theorem sn_page {h : VHost} {m n : Int} (hh : SmHost h) : (pageOf h m n).length ≤ 1048576 := by
 have h4 : ([0, 0, 0, 0] : List Int).length ≤ 1048576 := by decide
 have hat : ∀ {l : List (List Int)} {i : Int}, SmIntSS l → (pageAt l i).length ≤ 1048576 := fun {l i} hl => by
  unfold pageAt
  cases e : at? l i with
  | none => exact h4
  | some r => exact hl.2 r (at_mem e)
 unfold pageOf
 cases e : monAt h m with
 | none => exact h4
 | some x =>
  simp only
  split
  ·split
   ·exact hat hh.1
   ·exact hat (hh.2.1.2 x (at_mem e)).2.1
  ·exact h4
theorem sm_seenAs {h : VHost} {m : Int} (hh : SmHost h) : SmBare (seenAs h m) := by
 unfold seenAs
 cases e : monAt h m with
 | none => exact ⟨⟨by simp, fun x hx => by cases hx⟩, ⟨by simp, fun x hx => by cases hx⟩, by simp [SmIntS]⟩
 | some x =>
  have hx := hh.2.1.2 x (at_mem e)
  refine ⟨⟨by rw [pagesTo_len]; decide, fun y hy => ?_⟩, hx.2.2.2.1, hx.2.2.2.2.1⟩
  obtain ⟨k, _, rfl⟩ := List.mem_map.1 hy
  exact sn_page hh
instance (h : VHost) (m : Int) [hh : Q (SmHost h)] : Q (SmBare (seenAs h m)) := ⟨sm_seenAs hh.h⟩
theorem sm_save {h : VHost} (hh : SmHost h) : SmSaved (save h) := by
 refine ⟨⟨?_, fun b hb => ?_⟩, ?_, ?_⟩
 ·show (allSeenAs h).length ≤ _
  unfold allSeenAs
  simp only [List.length_map, List.length_range]
  exact hh.2.1.1
 ·obtain ⟨k, _, rfl⟩ := List.mem_map.1 hb
  exact sm_seenAs hh
 ·show (h.Mons.map _).length ≤ _
  rw [List.length_map]
  exact hh.2.1.1
 ·show (h.Mons.map _).length ≤ _
  rw [List.length_map]
  exact hh.2.1.1
instance (h : VHost) [hh : Q (SmHost h)] : Q (SmSaved (save h)) := ⟨sm_save hh.h⟩
theorem impl_SeenAs_f (h : VHost) (m : Int) [Q (SmHost h)] : Fun Try.prog 44 [A (rHost h), I m] (RG [.a (rBare (seenAs h m))]) := by
 refine Fun.w 39 Try.func44 fun w g0 _ => ?_
 have hlp := fun i => pagesTo_len h m i
 refine callG (impl_MonAt_f h m).k ?_
 refine cnd (fun hb => ?_) (fun hb => ?_)
 ·exact (by rw [seen_no (by assumption)]; rfl)
 ·refine loopA [1, 2, 4, 7] [] [7, 24] (fun (i : Nat) => [.set 8 (I i)]) (fun (i : Nat) => [(7, ⟨true, [.own (.sl 1 ((pagesTo h m i).map dIntS)), .own (.sl 15 ((monOr h m).Guests.map dGuest)), .own (.sl 1 ((monOr h m).Outs.map dInt)), .own (.v (.int .i64 (monOr h m).Pending))]⟩)]) (fun (i : Nat) => i ≤ 8) (fun (i : Nat) => 8 - i) (0) (by omega) ?_
  refine ⟨hda, fun i hyp N1 hN1 => ?_⟩
  have hyp : i ≤ 8 := hyp
  have hli : LenX (pagesTo h m i) 8 := ⟨by rw [pagesTo_len]; omega⟩
  refine cnd (fun hb2 => ?_) (fun hb2 => ?_)
  ·refine regU [7, 9] [(0, 0), (1, 0), (2, 0), (3, 0), (4, 0), (5, 1), (6, 1), (7, 1), (8, 0), (9, 1)] ?_
   refine callL (impl_PageOf_f h m i).k ?_
   first | refine appOq ?_ | refine appO ?_
   refine rng ?_
   refine hN1 _ _ _ ?_
   refine nxa (i + 1) (by omega) (by repeat' first | exact rfl | refine And.intro ?_ ?_ | exact True.intro | (refine eqS ?_; rw [pagesTo_map]; exact rfl))
  ·refine hN1 _ _ _ ?_
   exact (by have hi8 : i = 8 := (by omega); subst hi8; rw [seen_yes (by assumption)]; rfl)
end Go.Proofs.Ytcmoifejjodgcaa.T

namespace Go.Proofs.Ytcmoifejjodgcaa.T
open Go
set_option linter.unusedVariables false
set_option linter.unusedSimpArgs false
set_option maxRecDepth 100000
set_option maxHeartbeats 8000000
def reflH (h : VHost) (m : Int) (F : VBare → Option VBare) : Option VHost := if hasMon h m then (F (seenAs h m)).map (backTo h m.toNat) else none
theorem hasMon_yes {h : VHost} {m : Int} (h1 : hostOk h = true) (h2 : 0 ≤ m ∧ m < h.Mons.length) : hasMon h m = true := by simp only [hasMon, Bool.and_eq_true, decide_eq_true_eq]; exact ⟨h1, h2⟩
theorem hasMon_of {h : VHost} {m : Int} (h1 : hasMon h m = true) : hostOk h = true ∧ 0 ≤ m ∧ m < h.Mons.length := by simpa only [hasMon, Bool.and_eq_true, decide_eq_true_eq] using h1
theorem hasMon_none {h : VHost} {m : Int} (h1 : hostOk h = false ∨ ¬ (0 ≤ m ∧ m < h.Mons.length)) : hasMon h m = false := by
 cases e : hasMon h m with
 | false => rfl
 | true =>
  have := hasMon_of e
  rcases h1 with h1 | h1
  ·rw [h1] at this; cases this.1
  ·exact absurd this.2 h1
theorem refl_no {h : VHost} {m : Int} {F : VBare → Option VBare} (h1 : hostOk h = false ∨ ¬ (0 ≤ m ∧ m < h.Mons.length)) : reflH h m F = none := by
 unfold reflH
 rw [hasMon_none h1]
 rfl
theorem refl_some {h : VHost} {m : Int} {F : VBare → Option VBare} (h1 : hostOk h = true) (h2 : 0 ≤ m ∧ m < h.Mons.length) (h3 : (F (seenAs h m)).isSome = true) : reflH h m F = some (backTo h m.toNat ((F (seenAs h m)).getD (seenAs h m))) := by
 unfold reflH
 rw [hasMon_yes h1 h2, if_pos rfl]
 cases e : F (seenAs h m) with
 | none => rw [e] at h3; cases h3
 | some b => rfl
theorem refl_res {h : VHost} {m : Int} {F : VBare → Option VBare} (h1 : hostOk h = true) (h2 : 0 ≤ m ∧ m < h.Mons.length) (h3 : (F (seenAs h m)).isSome = true) :
  resG [RD.a (rHost ((reflH h m F).getD h)), RD.c (.v (.bool (reflH h m F).isSome))] = resG [RD.a (rHost (backTo h m.toNat ((F (seenAs h m)).getD (seenAs h m)))), RD.c (.v (.bool (F (seenAs h m)).isSome))] := by
 rw [refl_some h1 h2 h3, h3]
 rfl
theorem refl_none {h : VHost} {m : Int} {F : VBare → Option VBare} (h3 : (F (seenAs h m)).isSome = false) : reflH h m F = none := by
 unfold reflH
 cases e : F (seenAs h m) with
 | none => split <;> rfl
 | some b => rw [e] at h3; cases h3
theorem refl_res0 {h : VHost} {m : Int} {F : VBare → Option VBare} (h3 : (F (seenAs h m)).isSome = false) :
  resG [RD.a (rHost ((reflH h m F).getD h)), RD.c (.v (.bool (reflH h m F).isSome))] = resG [RD.a (rHost h), RD.c (.v (.bool (F (seenAs h m)).isSome))] := by
 rw [refl_none h3, h3]
 rfl
theorem back_row (h : VHost) (m : Nat) (x : VMon) (b : VBare) (hx : h.Mons[m]? = some x) : rHost (backTo h m b) = [.sl 1 (h.Memory.map dIntS), .sl 9 (((h.Mons.map dMon).set m (.st [.sl 2 (x.Outer.map dSlot), .sl 1 (x.Out.map dIntS), .sl 1 (x.Dirty.map dBool), .sl 15 (b.Guests.map dGuest), .sl 1 (x.Outs.map dInt), .v (.int .i64 x.Pending), .v (.int .i64 x.Traps), .sl 2 (x.Tables.map dKept), .v (.int .i64 x.Own)])).set m (.st [.sl 2 (x.Outer.map dSlot), .sl 1 (x.Out.map dIntS), .sl 1 (x.Dirty.map dBool), .sl 15 (b.Guests.map dGuest), .sl 1 (x.Outs.map dInt), .v (.int .i64 b.Pending), .v (.int .i64 x.Traps), .sl 2 (x.Tables.map dKept), .v (.int .i64 x.Own)])), .sl 4 (h.Buffer.map dEntry), .sl 4 (h.IoBuffer.map dEntry)] := by
 unfold backTo setMon
 rw [mon_is hx, List.set_set]
 show [_, D.sl 9 ((h.Mons.set m { x with Guests := b.Guests, Pending := b.Pending }).map dMon), _, _] = _
 rw [List.map_set]
theorem back_same {h : VHost} {m : Nat} {x : VMon} (hx : h.Mons[m]? = some x) : backTo h m (viewOf x) = h := by
 unfold backTo setMon
 rw [mon_is hx]
 show { h with Mons := h.Mons.set m x } = h
 rw [lv_same hx]
theorem on_get {h : VHost} {m : Int} {F : VBare → Option VBare} (hm : hasMon h m = true) : (onMon h m F).getD h = backTo h m.toNat ((F (viewOf (mon h m.toNat))).getD (viewOf (mon h m.toNat))) := by
 unfold onMon
 rw [hm, if_pos rfl]
 cases F (viewOf (mon h m.toNat)) with
 | none => exact (back_same (mon_is2 (hasMon_of hm).2)).symm
 | some b => rfl
theorem on_no {h : VHost} {m : Int} {F : VBare → Option VBare} (hm : hasMon h m = false) : onMon h m F = none := by
 unfold onMon
 rw [hm]
 rfl
theorem sm_view {x : VMon} (hx : SmMon x) : SmBare (viewOf x) := ⟨⟨by show (memNew 8).length ≤ _; decide, fun y hy => by have := List.eq_of_mem_replicate (show y ∈ List.replicate 8 [0, 0, 0, 0] from hy); subst this; show (4 : Nat) ≤ _; decide⟩, hx.2.2.2.1, hx.2.2.2.2.1⟩
instance (x : VMon) [hx : Q (SmMon x)] : Q (SmBare (viewOf x)) := ⟨sm_view hx.h⟩
theorem sm_back {h : VHost} {m : Nat} {x : VMon} {b : VBare} (hh : SmHost h) (hx : h.Mons[m]? = some x) (hb : SmBare b) : SmHost (backTo h m b) := by
 unfold backTo setMon
 rw [mon_is hx]
 have h3 := hh.2.1.2 x (List.mem_of_getElem? hx)
 exact sm_setM hh ⟨h3.1, h3.2.1, h3.2.2.1, hb.2.1, h3.2.2.2.2.1, h3.2.2.2.2.2⟩
theorem impl_reflected_f3 (h : VHost) (m : Int) {F : VBare → Option VBare} {f : FuncId} {a1 a2 a3 : List D} [Q (SmHost h)] (hf : Callable Try.prog f) (hF : ∀ b, Q (SmBare b) → Fun Try.prog f [A (rBare b), .one (.cptr a1), .one (.cptr a2), .one (.cptr a3)] (RG [.a (rBare ((F b).getD b)), .c (.v (.bool (F b).isSome))])) (hS : ∀ b, SmBare b → SmBare ((F b).getD b)) : Fun Try.prog 23 [A (rHost h), I m, .fn f [.cptr a1, .cptr a2, .cptr a3]] (RG [.a (rHost ((reflH h m F).getD h)), .c (.v (.bool (reflH h m F).isSome))]) := by
 refine Fun.w 51 Try.func23 fun w g0 hM => ?_
 have hlm := (inferInstance : LenX h.Mons 1048576).h
 have hl0 := hM.1.2.1.map
 refine callG (impl_copyHost_f h).k ?_
 refine callP (impl_HostOk_f h).k ?_
 refine cnd (fun hg3 => ?_) (fun hg3 => ?_)
 ·exact (by rw [refl_no (by first | (left; simpa using hg3) | (right; omega))]; rfl)
 ·refine len ?_
  refine callP (impl_has_f _ _).k ?_
  refine cnd (fun hb => ?_) (fun hb => ?_)
  ·exact (by rw [refl_no (by first | (left; simpa using hg3) | (right; omega))]; rfl)
  ·refine callG (impl_SeenAs_f h m).k ?_
   refine callCG (hF (seenAs h m) inferInstance).k ?_ (hf := hf)
   refine cnd (fun hb2 => ?_) (fun hb2 => ?_)
   ·have qb : Q (SmBare ((F (seenAs h m)).getD (seenAs h m))) := ⟨hS _ (sm_seenAs (by assumption : Q (SmHost h)).h)⟩
    have hx0 := mon_is2 (h := h) (m := m) (by omega)
    have hml := (List.getElem?_eq_some_iff.1 hx0).1
    have hml2 : m.toNat < (h.Mons.map dMon).length := by rw [List.length_map]; exact hml
    have qx0 : Q (SmMon (mon h m.toNat)) := ⟨ElS.h _ (List.mem_of_getElem? hx0)⟩
    refine regU [8] [(0, 0), (1, 0), (2, 0), (3, 0), (4, 0), (5, 1), (6, 0), (7, 0), (8, 1)] ?_
    refine callL (impl_copyGuests_f ((F (seenAs h m)).getD (seenAs h m)).Guests).k ?_
    first | refine ixm (by assumption) ?_ | refine bnd ?_ | refine bndi ?_ | refine ixkq (fun y40 hy40 qy40 ly40 => ?_) | refine ixiq (fun y40 hy40 qy40 ly40 => ?_)
    first | refine ixs ?_ | refine ixo (by assumption) ?_ | refine ixoq (fun z1 hz1 qz1 lz1 => ?_) | skip
    first | refine ixm (by assumption) ?_ | refine bnd ?_ | refine bndi ?_ | refine ixkq (fun y47 hy47 qy47 ly47 => ?_) | refine ixiq (fun y47 hy47 qy47 ly47 => ?_)
    first | refine ixs ?_ | refine ixo (by assumption) ?_ | refine ixoq (fun z2 hz2 qz2 lz2 => ?_) | skip
    exact (by show _ = resG [RD.a (rHost ((reflH h m F).getD h)), RD.c (.v (.bool (reflH h m F).isSome))]; rw [refl_res (by simpa using hg3) (by omega) (by assumption), back_row h m.toNat _ _ hx0]; rfl)
   ·exact (by show _ = resG [RD.a (rHost ((reflH h m F).getD h)), RD.c (.v (.bool (reflH h m F).isSome))]; rw [refl_res0 (by assumption)]; rfl)
end Go.Proofs.Ytcmoifejjodgcaa.T

namespace Go.Proofs.Ytcmoifejjodgcaa.T
open Go
set_option linter.unusedVariables false
set_option linter.unusedSimpArgs false
set_option maxRecDepth 100000
set_option maxHeartbeats 8000000
section
variable {b : VBare} {g : Int} {x : VGuest} {w : Bool}
end
theorem sm_cell {m : List (List Int)} {p c v : Int} (h : SmIntSS m) : SmIntSS (withCell m p c v) := by
 unfold withCell
 cases e : at? m p with
 | none => exact h
 | some r =>
  simp only
  split
  ·refine ⟨by rw [put_len]; exact h.1, fun y hy => ?_⟩
   unfold put at hy
   split at hy
   ·rcases List.mem_or_eq_of_mem_set hy with hy | rfl
    ·exact h.2 y hy
    ·show (put r c v).length ≤ _
     rw [put_len]
     exact h.2 r (at_mem e)
   ·exact h.2 y hy
  ·exact h
theorem sm_trapped {x : VGuest} {w : Int} (h : SmGuest x) : SmGuest (trapped x w) := by unfold trapped; split <;> exact h
instance (x : VGuest) (w : Int) [h : Q (SmGuest x)] : Q (SmGuest (trapped x w)) := ⟨sm_trapped h.h⟩
instance (b : VBare) (p c v : Int) [hb : Q (SmBare b)] : Q (SmBare { b with Memory := withCell b.Memory p c v }) := ⟨sm_cell hb.h.1, hb.h.2⟩
instance (m : List (List Int)) (p c v : Int) [hb : Q (SmIntSS m)] : Q (SmIntSS (withCell m p c v)) := ⟨sm_cell hb.h⟩
theorem sm_trapBy {x : VGuest} {t w : Int} (h : SmGuest x) : SmGuest (trapBy x t w).1 := by
 unfold trapBy
 repeat' split
 all_goals exact h
instance (x : VGuest) (t w : Int) [h : Q (SmGuest x)] : Q (SmGuest (trapBy x t w).1) := ⟨sm_trapBy h.h⟩
end Go.Proofs.Ytcmoifejjodgcaa.T

namespace Go.Proofs.Ytcmoifejjodgcaa.T
open Go
set_option linter.unusedVariables false
set_option linter.unusedSimpArgs false
set_option maxRecDepth 100000
set_option maxHeartbeats 8000000
abbrev postF (n : Int) (g : VGuest) : VGuest := { g with Pending := (postIrq g.Pending n).getD g.Pending }
def postTo (n : Int) (gs : List VGuest) (l : List Int) : List VGuest := l.foldl (fun gs i => gs.set i.toNat (postF n (gs[i.toNat]?.getD noGuest))) gs
theorem sm_postTo {n : Int} : ∀ {l : List Int} {gs : List VGuest}, SmGuestS gs → SmGuestS (postTo n gs l)
 | [], gs, h => h
 | i :: l, gs, h => by
  refine sm_postTo (l := l) (gs := gs.set i.toNat (postF n (gs[i.toNat]?.getD noGuest))) ⟨by rw [List.length_set]; exact h.1, fun y hy => ?_⟩
  rcases List.mem_or_eq_of_mem_set hy with hy | rfl
  ·exact h.2 y hy
  ·cases e : gs[i.toNat]? with
   | none => exact sm_noGuest
   | some x => exact h.2 x (List.mem_of_getElem? e)
instance (n : Int) (l : List Int) (gs : List VGuest) [h : Q (SmGuestS gs)] : Q (SmGuestS (postTo n gs l)) := ⟨sm_postTo h.h⟩
abbrev ackB (b : VBare) : VBare := ((bareAck b).map Prod.fst).getD b
abbrev ackN (b : VBare) : Int := ((bareAck b).map Prod.snd).getD (-1)
end Go.Proofs.Ytcmoifejjodgcaa.T

