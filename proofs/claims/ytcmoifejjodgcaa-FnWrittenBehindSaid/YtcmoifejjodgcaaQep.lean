
import Derived.Test.YtcmoifejjodgcaaPdp
import Derived.Test.YtcmoifejjodgcaaRpp
import Derived.Test.YtcmoifejjodgcaaNpp
namespace Go.Proofs.Ytcmoifejjodgcaa.T
open Go
set_option linter.unusedVariables false
set_option linter.unusedSimpArgs false
set_option maxRecDepth 100000
set_option maxHeartbeats 8000000
theorem ack_pair {b : VBare} : yieldsN b (-1) (bareAck b) = (ackB b, ⟨(bareAck b).isSome, ackN b⟩) := by
 unfold ackB ackN
 cases bareAck b <;> rfl
theorem read_pair {b : VBare} {g a : Int} : yieldsN b 0 ((bareRead b g a).map fun n => (b, n)) = (b, ⟨(bareRead b g a).isSome, (bareRead b g a).getD 0⟩) := by cases bareRead b g a <;> rfl
theorem ba_1 {b : VBare} {a : VAct} (h : a.Kind = 1) : bareAct1 b a = yields b (bareStep b a.G) := by unfold bareAct1; rw [if_pos h]
theorem ba_2 {b : VBare} {a : VAct} (h : a.Kind = 2) : bareAct1 b a = yields b (bareSet b a.G a.X ⟨a.Y, a.Z⟩) := by unfold bareAct1; rw [if_neg (by omega), if_pos h]
theorem ba_3 {b : VBare} {a : VAct} (h : a.Kind = 3) : bareAct1 b a = yields b (bareFlush b a.G a.X) := by unfold bareAct1; rw [if_neg (by omega), if_neg (by omega), if_pos h]
theorem ba_4 {b : VBare} {a : VAct} (h : a.Kind = 4) : bareAct1 b a = yields b (bareAnswer b a.G a.X) := by unfold bareAct1; rw [if_neg (by omega), if_neg (by omega), if_neg (by omega), if_pos h]
theorem ba_5 {b : VBare} {a : VAct} (h : a.Kind = 5) : bareAct1 b a = yields b (bareResume b a.G) := by unfold bareAct1; rw [if_neg (by omega), if_neg (by omega), if_neg (by omega), if_neg (by omega), if_pos h]
theorem ba_6 {b : VBare} {a : VAct} (h : a.Kind = 6) : bareAct1 b a = yields b (bareInject b a.G a.X) := by unfold bareAct1; rw [if_neg (by omega), if_neg (by omega), if_neg (by omega), if_neg (by omega), if_neg (by omega), if_pos h]
theorem ba_7 {b : VBare} {a : VAct} (h : a.Kind = 7) : bareAct1 b a = yields b (bareCtl b a.G (ctlOf a)) := by unfold bareAct1; rw [if_neg (by omega), if_neg (by omega), if_neg (by omega), if_neg (by omega), if_neg (by omega), if_neg (by omega), if_pos h]
theorem ba_8 {b : VBare} {a : VAct} (h : a.Kind = 8) : bareAct1 b a = yields b (barePoke b a.X a.Y a.Z) := by unfold bareAct1; rw [if_neg (by omega), if_neg (by omega), if_neg (by omega), if_neg (by omega), if_neg (by omega), if_neg (by omega), if_neg (by omega), if_pos h]
theorem ba_9 {b : VBare} {a : VAct} (h : a.Kind = 9) : bareAct1 b a = yields b (barePost b a.X) := by unfold bareAct1; rw [if_neg (by omega), if_neg (by omega), if_neg (by omega), if_neg (by omega), if_neg (by omega), if_neg (by omega), if_neg (by omega), if_neg (by omega), if_pos h]
theorem ba_10 {b : VBare} {a : VAct} (h : a.Kind = 10) : bareAct1 b a = (ackB b, ⟨(bareAck b).isSome, ackN b⟩) := by unfold bareAct1; rw [if_neg (by omega), if_neg (by omega), if_neg (by omega), if_neg (by omega), if_neg (by omega), if_neg (by omega), if_neg (by omega), if_neg (by omega), if_neg (by omega), if_pos h, ack_pair]
theorem ba_11 {b : VBare} {a : VAct} (h : a.Kind = 11) : bareAct1 b a = yields b (bareDma b a.G a.X a.Y) := by unfold bareAct1; rw [if_neg (by omega), if_neg (by omega), if_neg (by omega), if_neg (by omega), if_neg (by omega), if_neg (by omega), if_neg (by omega), if_neg (by omega), if_neg (by omega), if_neg (by omega), if_pos h]
theorem ba_12 {b : VBare} {a : VAct} (h : a.Kind = 12) : bareAct1 b a = (b, ⟨(bareRead b a.G a.X).isSome, (bareRead b a.G a.X).getD 0⟩) := by unfold bareAct1; rw [if_neg (by omega), if_neg (by omega), if_neg (by omega), if_neg (by omega), if_neg (by omega), if_neg (by omega), if_neg (by omega), if_neg (by omega), if_neg (by omega), if_neg (by omega), if_neg (by omega), if_pos h, read_pair]
theorem sm_yields {b : VBare} {q : Option VBare} (hb : SmBare b) (h : ∀ x, q = some x → SmBare x) : SmBare (yields b q).1 := by
 cases q with
 | none => exact hb
 | some x => exact h x rfl
end Go.Proofs.Ytcmoifejjodgcaa.T

namespace Go.Proofs.Ytcmoifejjodgcaa.T
open Go
set_option linter.unusedVariables false
set_option linter.unusedSimpArgs false
set_option maxRecDepth 100000
set_option maxHeartbeats 8000000
theorem sm_onGuest {b : VBare} {g : Int} {f : VGuest → Option VGuest} (hb : SmBare b) (hf : ∀ x y, SmGuest x → f x = some y → SmGuest y) : ∀ c, onGuest b g f = some c → SmBare c := by
 intro c hc
 unfold onGuest at hc
 split at hc
 ·cases hx : at? b.Guests g with
  | none => rw [hx] at hc; cases hc
  | some x =>
   rw [hx] at hc
   have hc : (f x).map (withGuest b g) = some c := hc
   cases hy : f x with
   | none => rw [hy] at hc; cases hc
   | some y =>
    rw [hy] at hc
    simp only [Option.map_some, Option.some.injEq] at hc
    subst hc
    refine sm_with hb (hf x y ?_ hy)
    have := sm_guestOr (g := g) hb
    rwa [guestOr_eq hx] at this
 ·cases hc
theorem sm_loaded {x : VGuest} {v : Int} (h : SmGuest x) : SmGuest (loaded x v) :=
 have : Q (SmGuest x) := ⟨h⟩
 (inferInstance : Q (SmGuest (loaded x v))).h
theorem sm_stepOf {b : VBare} {g : Int} {x : VGuest} (hb : SmBare b) (hx : SmGuest x) : SmBare (stepOf b g x) := by
 have hq : Q (SmGuest x) := ⟨hx⟩
 have ht : ∀ w, SmBare (touched b g x w) := fun w => by
  unfold touched
  split
  ·exact sm_with hb hx
  ·split
   ·exact sm_with ⟨sm_cell hb.1, hb.2⟩ hx
   ·exact sm_with hb (sm_loaded hx)
 unfold stepOf
 split
 ·exact sm_with hb (inferInstance : Q (SmGuest (interrupted x))).h
 ·split
  ·exact sm_with hb (inferInstance : Q (SmGuest (plainly x))).h
  ·split
   ·exact ht _
   ·split
    ·exact ht _
    ·split
     ·exact sm_with hb hx
     ·split
      ·refine sm_with hb ?_
       unfold trapped
       split <;> exact hx
      ·split
       ·exact sm_with (sm_putOut hb) hx
       ·exact sm_with hb hx
theorem sm_step {b : VBare} {g : Int} (hb : SmBare b) : ∀ c, bareStep b g = some c → SmBare c := by
 intro c hc
 unfold bareStep at hc
 split at hc
 ·cases hx : at? b.Guests g with
  | none => rw [hx] at hc; cases hc
  | some x =>
   rw [hx] at hc
   have hc : (if wantOf x = 0 then none else some (stepOf b g x)) = some c := hc
   split at hc
   ·cases hc
   ·cases hc
    have := sm_guestOr (g := g) hb
    rw [guestOr_eq hx] at this
    exact sm_stepOf hb this
 ·cases hc
theorem if_some {p : Prop} {_ : Decidable p} {α : Type} {x y : α} (h : (if p then some x else none) = some y) : x = y := by
 split at h
 ·cases h; rfl
 ·cases h
theorem sm_set {b : VBare} {g p : Int} {s : VSlot} (hb : SmBare b) : ∀ c, bareSet b g p s = some c → SmBare c := sm_onGuest hb fun x y hx h => by rw [← if_some h]; exact sm_fSet hx
theorem sm_bflush {b : VBare} {g p : Int} (hb : SmBare b) : ∀ c, bareFlush b g p = some c → SmBare c := sm_onGuest hb fun x y hx h => by rw [← if_some h]; exact sm_fFlush hx
theorem sm_answer {b : VBare} {g v : Int} (hb : SmBare b) : ∀ c, bareAnswer b g v = some c → SmBare c := sm_onGuest hb fun x y hx h => by
 rw [← if_some h]
 split <;> exact hx
theorem sm_resume {b : VBare} {g : Int} (hb : SmBare b) : ∀ c, bareResume b g = some c → SmBare c := sm_onGuest hb fun x y hx h => by
 split at h
 ·cases h; exact hx
 ·rw [← if_some h]; exact hx
theorem sm_inject {b : VBare} {g n : Int} (hb : SmBare b) : ∀ c, bareInject b g n = some c → SmBare c := sm_onGuest hb fun x y hx h => by
 cases e : postIrq x.Pending n with
 | none => rw [e] at h; cases h
 | some p => rw [e] at h; cases h; exact hx
theorem sm_ctl {b : VBare} {g : Int} {x : VCtl} (hb : SmBare b) : ∀ c, bareCtl b g x = some c → SmBare c := sm_onGuest hb fun x y hx h => by rw [← if_some h]; exact hx
theorem sm_poke {b : VBare} {p c v : Int} (hb : SmBare b) : ∀ d, barePoke b p c v = some d → SmBare d := fun d h => by unfold barePoke at h; rw [← if_some h]; exact ⟨sm_cell hb.1, hb.2⟩
theorem sm_post {b : VBare} {n : Int} (hb : SmBare b) : ∀ d, barePost b n = some d → SmBare d := fun d h => by
 unfold barePost at h
 rw [← if_some h]
 split
 ·refine ⟨hb.1, ⟨by show (b.Guests.map _).length ≤ _; rw [List.length_map]; exact hb.2.1.1, fun y hy => ?_⟩, hb.2.2⟩
  obtain ⟨x, hx, rfl⟩ := List.mem_map.1 (show y ∈ b.Guests.map (postedG n) from hy)
  unfold postedG
  split <;> exact hb.2.1.2 x hx
 ·exact hb
theorem sm_dma {b : VBare} {g a v : Int} (hb : SmBare b) : ∀ d, bareDma b g a v = some d → SmBare d := fun d h => by
 unfold bareDma at h
 split at h
 ·cases e : reach b g a 2 with
  | none => rw [e] at h; cases h
  | some p => rw [e] at h; cases h; exact ⟨sm_cell hb.1, hb.2⟩
 ·cases h
theorem sm_ack {b : VBare} (hb : SmBare b) : SmBare (ackB b) := by
 unfold ackB bareAck
 split
 ·cases takeIrq b.Pending <;> exact hb
 ·exact hb
theorem ba_0 {b : VBare} {a : VAct} (h : ¬ (1 ≤ a.Kind ∧ a.Kind ≤ 12)) : bareAct1 b a = (b, ⟨false, 0⟩) := by unfold bareAct1; rw [if_neg (by omega), if_neg (by omega), if_neg (by omega), if_neg (by omega), if_neg (by omega), if_neg (by omega), if_neg (by omega), if_neg (by omega), if_neg (by omega), if_neg (by omega), if_neg (by omega), if_neg (by omega)]
theorem sm_bareAct1 {b : VBare} {a : VAct} (hb : SmBare b) : SmBare (bareAct1 b a).1 := by
 by_cases h : 1 ≤ a.Kind ∧ a.Kind ≤ 12
 ·have h1 : a.Kind = 1 ∨ a.Kind = 2 ∨ a.Kind = 3 ∨ a.Kind = 4 ∨ a.Kind = 5 ∨ a.Kind = 6 ∨ a.Kind = 7 ∨ a.Kind = 8 ∨ a.Kind = 9 ∨ a.Kind = 10 ∨ a.Kind = 11 ∨ a.Kind = 12 := by omega
  rcases h1 with h1 | h1 | h1 | h1 | h1 | h1 | h1 | h1 | h1 | h1 | h1 | h1
  ·rw [ba_1 h1]; exact sm_yields hb (sm_step hb)
  ·rw [ba_2 h1]; exact sm_yields hb (sm_set hb)
  ·rw [ba_3 h1]; exact sm_yields hb (sm_bflush hb)
  ·rw [ba_4 h1]; exact sm_yields hb (sm_answer hb)
  ·rw [ba_5 h1]; exact sm_yields hb (sm_resume hb)
  ·rw [ba_6 h1]; exact sm_yields hb (sm_inject hb)
  ·rw [ba_7 h1]; exact sm_yields hb (sm_ctl hb)
  ·rw [ba_8 h1]; exact sm_yields hb (sm_poke hb)
  ·rw [ba_9 h1]; exact sm_yields hb (sm_post hb)
  ·rw [ba_10 h1]; exact sm_ack hb
  ·rw [ba_11 h1]; exact sm_yields hb (sm_dma hb)
  ·rw [ba_12 h1]; exact hb
 ·rw [ba_0 h]; exact hb
theorem sm_bareAct {l : List VBare} {a : VAct} (hl : SmBareS l) : SmBareS (bareAct l a).1 := by
 unfold bareAct
 split
 ·cases hx : at? l a.M with
  | none => exact hl
  | some b =>
   have hb : SmBare b := by
    unfold at? at hx
    split at hx
    ·exact hl.2 b (List.mem_of_getElem? hx)
    ·cases hx
   refine ⟨by show (put l a.M _).length ≤ _; rw [put_len]; exact hl.1, fun y hy => ?_⟩
   have hy : y ∈ put l a.M (bareAct1 b a).1 := hy
   unfold put at hy
   split at hy
   ·rcases List.mem_or_eq_of_mem_set hy with hy | rfl
    ·exact hl.2 y hy
    ·exact sm_bareAct1 hb
   ·exact hl.2 y hy
 ·exact hl
instance (l : List VBare) (a : VAct) [h : Q (SmBareS l)] : Q (SmBareS (bareAct l a).1) := ⟨sm_bareAct h.h⟩
end Go.Proofs.Ytcmoifejjodgcaa.T

namespace Go.Proofs.Ytcmoifejjodgcaa.T
open Go
set_option linter.unusedVariables false
set_option linter.unusedSimpArgs false
set_option maxRecDepth 100000
set_option maxHeartbeats 8000000
theorem page_ok {h : VHost} {m : Int} {x : VMon} {n : Nat} (h1 : hostOk h = true) (hm : monAt h m = some x) (hn : n < 8) : pageOk (pageOf h m n) = true := by
 have h4 : pageOk [0, 0, 0, 0] = true := by decide
 have hx : monOk x = true := List.all_eq_true.1 (by simp only [hostOk, Bool.and_eq_true] at h1; exact h1.1.2) x (at_mem hm)
 have hmem : ∀ r ∈ h.Memory, pageOk r = true := fun r hr => List.all_eq_true.1 (by simp only [hostOk, memOk, Bool.and_eq_true] at h1; exact h1.1.1.1.1.1.1) r hr
 have hmo := mon_outer hx
 unfold pageOf
 rw [hm]
 simp only
 rw [if_pos (by omega)]
 obtain ⟨s, hs⟩ : ∃ s, x.Outer[n]? = some s := ⟨_, List.getElem?_eq_getElem (by omega)⟩
 have hsl : slotAt x.Outer n = s := by
  unfold slotAt at?
  rw [if_pos (by omega), Int.toNat_natCast, hs]
  rfl
 rw [hsl]
 split
 ·unfold pageAt
  cases e : at? h.Memory s.Page with
  | none => exact h4
  | some r => exact hmem r (at_mem e)
 ·rename_i hp
  have hp : s.Page = -1 := by simpa using hp
  unfold pageAt
  cases e : at? x.Out n with
  | none => exact h4
  | some r =>
   have h5 : outAt x n = true := by
    simp only [monOk, Bool.and_eq_true] at hx
    exact List.all_eq_true.1 hx.1.2 n (List.mem_range.2 hn)
   have hr : x.Out[n]? = some r := by
    unfold at? at e
    rw [if_pos (by omega), Int.toNat_natCast] at e
    exact e
   have hso : slotOk s 12 = true := by
    have : tableOk x.Outer 8 12 = true := by simp only [monOk, monPre, Bool.and_eq_true] at hx; exact hx.1.1.1.1.1.2
    simp only [tableOk, Bool.and_eq_true] at this
    exact List.all_eq_true.1 this.1 s (List.mem_of_getElem? hs)
   have hno : s = noSlot := by
    unfold slotOk at hso
    simp only [Bool.or_eq_true, Bool.and_eq_true, decide_eq_true_eq] at hso
    rcases hso with hso | hso
    ·exact hso
    ·omega
   unfold outAt at h5
   rw [hs, hr] at h5
   simp only [if_pos hno] at h5
   exact h5
theorem mon_guests {x : VMon} (hx : monOk x = true) : x.Guests.all guestOk = true ∧ (1 ≤ x.Guests.length ∧ x.Guests.length ≤ 2) ∧ x.Outs.length ≤ 40 ∧ pendOk x.Pending = true := by
 simp only [monOk, monPre, monEnd, Bool.and_eq_true, decide_eq_true_eq] at hx
 exact ⟨hx.1.1.2, by omega, by omega, by simpa only [pendOk, decide_eq_true_eq] using hx.2.1.1.2⟩
theorem seen_ok {h : VHost} {m : Int} (hm : hasMon h m = true) : bareOk (seenAs h m) = true ∧ (seenAs h m).Guests = (mon h m.toNat).Guests ∧ (seenAs h m).Pending = (mon h m.toNat).Pending := by
 obtain ⟨h1, h2⟩ := hasMon_of hm
 have hx := mon_is2 h2
 have ha : monAt h m = some (mon h m.toNat) := by
  unfold monAt at?
  rw [if_pos h2.1]
  exact hx
 have hs : seenAs h m = ⟨pagesTo h m 8, (mon h m.toNat).Guests, (mon h m.toNat).Outs, (mon h m.toNat).Pending⟩ := by
  unfold seenAs
  rw [ha]
 rw [hs]
 obtain ⟨g1, g2, g3, g4⟩ := mon_guests (host_mon h1 hx)
 refine ⟨?_, rfl, rfl⟩
 simp only [bareOk, memOk, Bool.and_eq_true, decide_eq_true_eq]
 refine ⟨⟨⟨⟨g1, List.all_eq_true.2 fun y hy => ?_, by rw [pagesTo_len]; rfl⟩, by omega⟩, by omega⟩, by simpa only [pendOk, decide_eq_true_eq] using g4⟩
 obtain ⟨k, hk, rfl⟩ := List.mem_map.1 hy
 exact page_ok h1 ha (List.mem_range.1 hk)
theorem sm_getD {q : Option VBare} {b : VBare} (hb : SmBare b) (h : ∀ c, q = some c → SmBare c) : SmBare (q.getD b) := by
 cases e : q with
 | none => exact hb
 | some c => exact h c e
end Go.Proofs.Ytcmoifejjodgcaa.T

namespace Go.Proofs.Ytcmoifejjodgcaa.T
open Go
set_option linter.unusedVariables false
set_option linter.unusedSimpArgs false
set_option maxRecDepth 100000
set_option maxHeartbeats 8000000
theorem impl_mend_r {row : List D} {mi pi : Int} (h : VHost) (m : Nat) (x : VMon) (p : Nat) (z : VSlot) (need : Int) (hmi : mi = m) (hpi : pi = p) (hr : row = rHost h) (hn : 0 ≤ need ∧ need ≤ 3) (hs : Shp h) (ha : Alone h) (hx : h.Mons[m]? = some x) (hz : x.Outer[p]? = some z) (hzr : SlR z) :
  Fun2 Try.prog 26 ⟨true, row⟩ [.one (.ptr ⟨1000001, [], 0⟩), I mi, I pi, I need] (RP2 (rHost (mendP h m p need)) (.tup [])) := by
 subst hr hmi hpi
 exact impl_mend_f h m x p z need hn hs ha hx hz hzr
abbrev hD (h : VHost) (m q need : Int) : VHost := dirtIf h m.toNat q.toNat need
abbrev hF (h : VHost) (m g page q need : Int) : VHost := filled (hD h m q need) m.toNat g.toNat page q.toNat need
abbrev sF (h : VHost) (m g page q need : Int) : VSlot := (ask (kept (hF h m g page q need) m.toNat g.toNat) page).getD noSlot
abbrev eF (h : VHost) (m g page q need : Int) : VEntry := ⟨tagFor m g, page, (sF h m g page q need).Page, (sF h m g page q need).Rights⟩
theorem fnd_miss {h : VHost} {m g page need q : Int} {io : Bool} (hn : hasGuest h m g = true ∧ (need = 1 ∨ need = 2)) (hq : walkInner (guestOf h m.toNat g.toNat).Live page need = some q) (h1 : hitOf (hD h m q need) io m g page need = none) :
  find h m g page need io = some (setBuf (hF h m g page q need) io (putEntry (bufOf (hF h m g page q need) io) (eF h m g page q need)), (sF h m g page q need).Page) := by
 have h3 := hasGuest_on.1 hn.1
 rw [find_on hn, hq]
 show some (findP _ _ _ _ _ _ _) = _
 rw [findP_miss h3.2.1.1 h3.2.2.1 h1 rfl rfl]
 rfl
def fillM (x : VMon) (g : Nat) (k : VKept) : VMon := { x with Tables := x.Tables.set g k }
structure Mended (h : VHost) (m g : Nat) (page : Int) (q : Nat) (need : Int) (x : VMon) (k : VKept) (y : VGuest) : Prop where
 hs : Shp (mendP h m q need)
 hx : (mendP h m q need).Mons[m]? = some x
 hk : x.Tables[g]? = some k
 hy : x.Guests[g]? = some y
 hf : lets (ask (kept h m g) page) need = false → filled h m g page q need = { mendP h m q need with Mons := (mendP h m q need).Mons.set m (fillM x g (fillK k y.Live x.Outer page)) } ∧ kept (filled h m g page q need) m g = fillK k y.Live x.Outer page
theorem mended {h : VHost} {m g : Nat} {page : Int} {q : Nat} {need : Int} {x : VMon} {z : VSlot} {k : VKept} {y : VGuest} (hk : Seek h m g q x z k y) : ∃ x2 k2, Mended h m g page q need x2 k2 y := by
 have hs := shp_mend (need := need) hk.hs hk.ha hk.hx hk.hz
 obtain ⟨x2, h2, h3⟩ := same_mend (need := need) hk.hs hk.ha hk.hx hk.hz m x hk.hx
 have h4 := hs.mon h2
 have h5 := (List.getElem?_eq_some_iff.1 hk.hy).1
 have h6 : g < x2.Tables.length := by rw [h4.2.2.2, h3]; exact h5
 have h7 : x2.Tables[g]? = some (x2.Tables[g]'h6) := List.getElem?_eq_getElem h6
 have h8 : x2.Guests[g]? = some y := by rw [h3]; exact hk.hy
 refine ⟨x2, _, hs, h2, h7, h8, fun hl => ?_⟩
 have h9 := filled_yes (q := q) hl h2 h7 h8
 refine ⟨h9, ?_⟩
 rw [h9]
 exact kept_is (set_at h2) (set_at h7)
theorem sm_fillK {k : VKept} {a b : List VSlot} {p : Int} (hk : SmKept k) : SmKept (fillK k a b p) := by
 unfold fillK
 split
 ·exact hk
 ·split
  ·exact ⟨by show (put _ _ _).length ≤ _; rw [put_len]; exact hk.1, by show (put _ _ _).length ≤ _; rw [put_len]; exact hk.2⟩
  ·exact hk
theorem shp_filled {h : VHost} {m g : Nat} {page : Int} {q : Nat} {need : Int} {x : VMon} {z : VSlot} {k : VKept} {y : VGuest} (hk : Seek h m g q x z k y) : Shp (filled h m g page q need) := by
 cases hl : lets (ask (kept h m g) page) need with
 | true => rw [filled_no hl]; exact hk.hs
 | false =>
  obtain ⟨x2, k2, h2⟩ := @mended h m g page q need x z k y hk
  rw [(h2.hf hl).1]
  have h3 := h2.hs.sm h2.hx
  have h4 := h2.hs.mon h2.hx
  refine shp_set h2.hs ⟨h3.1, h3.2.1, h3.2.2.1, h3.2.2.2.1, h3.2.2.2.2.1, ⟨by show (x2.Tables.set _ _).length ≤ _; rw [List.length_set]; exact h3.2.2.2.2.2.1, fun c hc => ?_⟩⟩ ⟨h4.1, h4.2.1, h4.2.2.1, by show (x2.Tables.set _ _).length = _; rw [List.length_set]; exact h4.2.2.2⟩
  rcases List.mem_or_eq_of_mem_set hc with hc | rfl
  ·exact h3.2.2.2.2.2.2 c hc
  ·exact sm_fillK (h3.2.2.2.2.2.2 k2 (List.mem_of_getElem? h2.hk))
end Go.Proofs.Ytcmoifejjodgcaa.T

namespace Go.Proofs.Ytcmoifejjodgcaa.T
open Go
set_option linter.unusedVariables false
set_option linter.unusedSimpArgs false
set_option maxRecDepth 100000
set_option maxHeartbeats 8000000
end Go.Proofs.Ytcmoifejjodgcaa.T

namespace Go.Proofs.Ytcmoifejjodgcaa.T
open Go
set_option linter.unusedVariables false
set_option linter.unusedSimpArgs false
set_option maxRecDepth 100000
set_option maxHeartbeats 8000000
end Go.Proofs.Ytcmoifejjodgcaa.T

namespace Go.Proofs.Ytcmoifejjodgcaa.T
open Go
set_option linter.unusedVariables false
set_option linter.unusedSimpArgs false
set_option maxRecDepth 100000
set_option maxHeartbeats 8000000
theorem impl_HostPoke1_f (b : VBare) (p : Int) (c : Int) (v : Int) [Q (SmBare b)] : Fun Try.prog 24 [A (rBare b), .one (.cptr [.v (.int .i64 p)]), .one (.cptr [.v (.int .i64 c)]), .one (.cptr [.v (.int .i64 v)])] (RG [.a (rBare ((barePoke b p c v).getD b)), .c (.v (.bool (barePoke b p c v).isSome))]) := by
 refine Fun.w 14 Try.func24 fun w g0 _ => ?_
 refine callG (impl_BarePoke_f b p c v).k ?_
 exact rfl
end Go.Proofs.Ytcmoifejjodgcaa.T

