
import Derived.Test.YteelmdpahpggkaaGreatPap
namespace Go.Proofs.YteelmdpahpggkaaGreat.T
open Go
set_option linter.unusedVariables false
set_option linter.unusedSimpArgs false
set_option maxRecDepth 100000
set_option maxHeartbeats 8000000
theorem onG_yes {b : VBare} {g : Int} (h : onG b g = true) : bareOk b = true ∧ 0 ≤ g ∧ g < b.Guests.length := by
 simp only [onG, Bool.and_eq_true, decide_eq_true_eq] at h
 exact h
theorem onG_on {b : VBare} {g : Int} (h : bareOk b = true) (h1 : 0 ≤ g ∧ g < b.Guests.length) : onG b g = true := by simp only [onG, Bool.and_eq_true, decide_eq_true_eq]; exact ⟨h, h1⟩
theorem bare_guest {b : VBare} {n : Nat} {x : VGuest} (hb : bareOk b = true) (hx : b.Guests[n]? = some x) : guestOk x = true := by
 simp only [bareOk, Bool.and_eq_true] at hb
 exact List.all_eq_true.1 hb.1.1.1.1 x (List.mem_of_getElem? hx)
theorem guest_rng {x : VGuest} (h : guestOk x = true) : (0 ≤ x.A ∧ x.A ≤ 99) ∧ (0 ≤ x.Pc ∧ x.Pc ≤ 12) ∧ x.Written.length = 4 ∧ x.Live.length = 4 := by
 simp only [guestOk, tableOk, Bool.and_eq_true, decide_eq_true_eq] at h
 omega
theorem at_some {b : VBare} {g : Int} : (at? b.Guests g).isSome = true ↔ 0 ≤ g ∧ g < b.Guests.length := by
 constructor
 ·intro h
  by_cases h1 : 0 ≤ g ∧ g < b.Guests.length
  ·exact h1
  ·rw [at_out h1] at h; cases h
 ·intro h
  rw [at_in h.1 (List.getElem?_eq_getElem (by omega))]
  rfl
theorem guestOr_in {b : VBare} {g : Int} {x : VGuest} (h0 : 0 ≤ g) (hx : b.Guests[g.toNat]? = some x) : guestOr b g = x := by unfold guestOr; rw [at_in h0 hx]; rfl
theorem guestOr_ok {b : VBare} {g : Int} (hb : bareOk b = true) (h : (at? b.Guests g).isSome = true) : guestOk (guestOr b g) = true := by
 have h1 := at_some.1 h
 have hx : b.Guests[g.toNat]? = some (b.Guests[g.toNat]'(by omega)) := List.getElem?_eq_getElem (by omega)
 rw [guestOr_in h1.1 hx]
 exact bare_guest hb hx
theorem onGuest_no {b : VBare} {g : Int} {f : VGuest → Option VGuest} (h : onG b g = false) : onGuest b g f = none := by
 unfold onGuest
 split
 ·rename_i hb
  rw [at_out]
  ·rfl
  ·intro e
   rw [onG_on hb e] at h
   cases h
 ·rfl
theorem onGuest_at {b : VBare} {g : Int} {f : VGuest → Option VGuest} {x : VGuest} (h : onG b g = true) (hx : b.Guests[g.toNat]? = some x) : onGuest b g f = (f x).map fun y => { b with Guests := b.Guests.set g.toNat y } := by
 have h1 := onG_yes h
 unfold onGuest
 rw [if_pos h1.1, at_in h1.2.1 hx]
 show (f x).map _ = _
 cases f x with
 | none => rfl
 | some y => show some (withGuest b g y) = _; rw [with_in h1.2.1]; rfl
abbrev chg (b : VBare) (g : Int) (c : Bool) (F : VGuest → VGuest) : Option VBare := onGuest b g fun x => if c = true then some (F x) else none
theorem chg_no {b : VBare} {g : Int} {c : Bool} {F : VGuest → VGuest} (h : bareOk b = false ∨ (at? b.Guests g).isSome = false ∨ c = false) : chg b g c F = none := by
 unfold chg onGuest
 split
 ·rename_i hb
  cases hx : at? b.Guests g with
  | none => rfl
  | some x =>
   rcases h with h | h | h
   ·rw [h] at hb; cases hb
   ·rw [hx] at h; cases h
   ·rw [h]; rfl
 ·rfl
theorem chg_yes {b : VBare} {g : Int} {c : Bool} {F : VGuest → VGuest} (hb : bareOk b = true) (h : (at? b.Guests g).isSome = true) (hc : c = true) : chg b g c F = some (withGuest b g (F (guestOr b g))) := by
 unfold chg onGuest guestOr
 rw [if_pos hb]
 cases hx : at? b.Guests g with
 | none => rw [hx] at h; cases h
 | some x => subst hc; rfl
instance (x : VGuest) (e : VExit) (a : Int) [h : Q (a ≤ x.Pc)] : Q (a ≤ (stopped x e).Pc) := h
def fSet (page : Int) (s : VSlot) (x : VGuest) : VGuest := { x with Written := put x.Written page s }
def fFlush (page : Int) (x : VGuest) : VGuest := { x with Live := put x.Live page (slotAt x.Written page) }
def fAnswer (kind v : Int) (x : VGuest) : VGuest := moved (stopped (if kind = 2 then { x with A := v } else x) noExit)
def fResume (kind : Int) (x : VGuest) : VGuest := if kind = 4 then held (stopped x noExit) else stopped x noExit
def fInject (p : Int) (x : VGuest) : VGuest := { x with Pending := p }
def fCtl (c : VCtl) (x : VGuest) : VGuest := { x with Ctl := c }
theorem sm_fSet {page : Int} {s : VSlot} {x : VGuest} (h : SmGuest x) : SmGuest (fSet page s x) := ⟨h.1, by show (put x.Written page s).length ≤ _; rw [put_len]; exact h.2.1, h.2.2.1, h.2.2.2⟩
theorem sm_fFlush {page : Int} {x : VGuest} (h : SmGuest x) : SmGuest (fFlush page x) := ⟨h.1, h.2.1, by show (put x.Live page _).length ≤ _; rw [put_len]; exact h.2.2.1, h.2.2.2⟩
theorem sm_fAnswer {kind v : Int} {x : VGuest} (h : SmGuest x) : SmGuest (fAnswer kind v x) := by
 unfold fAnswer
 split <;> exact h
theorem sm_fResume {kind : Int} {x : VGuest} (h : SmGuest x) : SmGuest (fResume kind x) := by
 unfold fResume
 split <;> exact h
theorem sm_fInject {p : Int} {x : VGuest} (h : SmGuest x) : SmGuest (fInject p x) := h
theorem sm_fCtl {c : VCtl} {x : VGuest} (h : SmGuest x) : SmGuest (fCtl c x) := h
theorem set_of {b : VBare} {g page : Int} {s : VSlot} {c : Bool} (h : c = (inR page 0 3 && slotOk s 8)) : bareSet b g page s = chg b g c (fSet page s) := by subst h; rfl
theorem flush_of {b : VBare} {g page : Int} {c : Bool} (h : c = inR page 0 3) : bareFlush b g page = chg b g c (fFlush page) := by subst h; rfl
theorem ctl_of {b : VBare} {g : Int} {x : VCtl} {c : Bool} (h : c = ctlOk x) : bareCtl b g x = chg b g c (fCtl x) := by subst h; rfl
theorem chg_at {b : VBare} {g : Int} {c : Bool} {F : VGuest → VGuest} {f : VGuest → Option VGuest} (h : ∀ x, at? b.Guests g = some x → f x = if c = true then some (F x) else none) : onGuest b g f = chg b g c F := by
 unfold chg onGuest
 split
 ·cases hx : at? b.Guests g with
  | none => rfl
  | some x => show (f x).map _ = Option.map _ _; rw [h x hx]
 ·rfl
theorem guestOr_eq {b : VBare} {g : Int} {x : VGuest} (h : at? b.Guests g = some x) : guestOr b g = x := by unfold guestOr; rw [h]; rfl
theorem answer_of {b : VBare} {g v : Int} {c : Bool} (h : c = true ↔ ((guestOr b g).Exit.Kind = 2 ∨ (guestOr b g).Exit.Kind = 3) ∧ 0 ≤ v ∧ v ≤ 99) : bareAnswer b g v = chg b g c (fAnswer (guestOr b g).Exit.Kind v) := chg_at fun x hx => by
 rw [guestOr_eq hx] at h ⊢
 by_cases h1 : c = true
 ·rw [if_pos h1, if_pos ⟨(h.1 h1).1, decide_eq_true (h.1 h1).2⟩]; rfl
 ·rw [if_neg h1, if_neg fun e => h1 (h.2 ⟨e.1, of_decide_eq_true e.2⟩)]
theorem resume_of {b : VBare} {g : Int} {c : Bool} (h : c = true ↔ ((guestOr b g).Exit.Kind = 1 ∨ (guestOr b g).Exit.Kind = 4)) : bareResume b g = chg b g c (fResume (guestOr b g).Exit.Kind) := chg_at fun x hx => by
 rw [guestOr_eq hx] at h ⊢
 unfold fResume
 by_cases h1 : x.Exit.Kind = 1
 ·rw [if_pos h1, if_pos (h.2 (.inl h1)), if_neg (by omega)]
 ·rw [if_neg h1]
  by_cases h2 : x.Exit.Kind = 4
  ·rw [if_pos h2, if_pos (h.2 (.inr h2)), if_pos h2]
  ·rw [if_neg h2, if_neg fun e => by rcases h.1 e with e | e <;> omega]
theorem inject_of {b : VBare} {g n : Int} : bareInject b g n = chg b g (postIrq (guestOr b g).Pending n).isSome (fInject ((postIrq (guestOr b g).Pending n).getD (guestOr b g).Pending)) := chg_at fun x hx => by
 rw [guestOr_eq hx]
 cases postIrq x.Pending n <;> rfl
theorem poke_no {b : VBare} {p c v : Int} (h : bareOk b = false ∨ ¬ (0 ≤ p ∧ p < 8) ∨ ¬ (0 ≤ c ∧ c < 4) ∨ ¬ (0 ≤ v ∧ v ≤ 99)) : barePoke b p c v = none := by
 unfold barePoke
 refine if_neg fun e => ?_
 simp only [Bool.and_eq_true, inR, decide_eq_true_eq] at e
 rcases h with h | h | h | h
 ·rw [h] at e; exact absurd e.1.1.1 (by decide)
 all_goals omega
theorem poke_yes {b : VBare} {p c v : Int} (h : bareOk b = true) (h1 : 0 ≤ p ∧ p < 8) (h2 : 0 ≤ c ∧ c < 4) (h3 : 0 ≤ v ∧ v ≤ 99) : barePoke b p c v = some { b with Memory := withCell b.Memory p c v } := by
 unfold barePoke
 refine if_pos ?_
 simp only [Bool.and_eq_true, inR, decide_eq_true_eq]
 exact ⟨⟨⟨h, by omega⟩, by omega⟩, by omega⟩
theorem inject_at {b : VBare} {g n : Int} {x : VGuest} (h : onG b g = true) (hx : b.Guests[g.toNat]? = some x) :
  resG [RD.a (rBare ((bareInject b g n).getD b)), RD.c (.v (.bool (bareInject b g n).isSome))] = resG [RD.a [.sl 1 (b.Memory.map dIntS), .sl 15 ((b.Guests.map dGuest).set g.toNat (dGuest { x with Pending := (postIrq x.Pending n).getD x.Pending })), .sl 1 (b.Outs.map dInt), .v (.int .i64 b.Pending)], RD.c (.v (.bool (postIrq x.Pending n).isSome))] := by
 rw [bareInject, onGuest_at h hx]
 cases postIrq x.Pending n with
 | some p => simp only [Option.map, Option.getD, rBare, List.map_set, Option.isSome]
 | none =>
  have e : (b.Guests.map dGuest).set g.toNat (dGuest x) = b.Guests.map dGuest := by
   rw [← List.map_set]
   congr 1
   exact List.ext_getElem? fun j => by
    by_cases hj : g.toNat = j
    ·subst hj
     have := (List.getElem?_eq_some_iff.1 hx).1
     rw [List.getElem?_set_self this, hx]
    ·rw [List.getElem?_set_ne hj]
  show resG [RD.a (rBare b), _] = resG [RD.a [_, .sl 15 ((b.Guests.map dGuest).set g.toNat (dGuest x)), _, _], _]
  rw [e]
  rfl
theorem impl_BareSet1_f (x : VGuest) (p : Int) (s : VSlot) [Q (SmGuest x)] : FunA Tryz.prog 428 [A (rGuest x), .one (.cptr [.v (.int .i64 p)]), .one (.cptr (rSlot s))] (A (rGuest (fSet p s x))) := by
 refine FunA.w 12 Tryz.func428 fun w g0 _ => ?_
 refine callL (impl_WithSlot_f x.Written p s).k ?_
 exact (by (repeat refine WholeW.mk WD.w ?_); rfl)
theorem impl_BareFlush1_f (x : VGuest) (p : Int) [Q (SmGuest x)] : FunA Tryz.prog 430 [A (rGuest x), .one (.cptr [.v (.int .i64 p)])] (A (rGuest (fFlush p x))) := by
 refine FunA.w 14 Tryz.func430 fun w g0 _ => ?_
 refine regU [9] [(0, 0), (1, 0), (2, 0), (3, 0), (4, 0), (5, 0), (6, 1), (7, 1), (8, 0), (9, 1)] ?_
 refine callP (impl_SlotAt_f x.Written p).k ?_
 refine callL (impl_WithSlot_f x.Live p (slotAt x.Written p)).k ?_
 exact (by (repeat refine WholeW.mk WD.w ?_); rfl)
theorem impl_BareAnswer1_f (x : VGuest) (k : Int) (v : Int) [Q (SmGuest x)] [hpc : Q (-9223372036854775808 ≤ x.Pc)] : FunA Tryz.prog 432 [A (rGuest x), .one (.cptr [.v (.int .i64 k)]), .one (.cptr [.v (.int .i64 v)])] (A (rGuest (fAnswer k v x))) := by
 refine FunA.w 13 Tryz.func432 fun w g0 _ => ?_
 refine cnd (fun hb => ?_) (fun hb => ?_)
 ·refine callG (impl_Stopped_f { x with A := v } noExit).k ?_
  refine callG (impl_Moved_f (stopped { x with A := v } noExit)).k ?_
  exact (by (repeat refine WholeW.mk WD.w ?_); first | (rw [fAnswer, if_pos (by assumption)]; rfl) | (rw [fAnswer, if_neg (by assumption)]; rfl))
 ·refine callG (impl_Stopped_f x noExit).k ?_
  refine callG (impl_Moved_f (stopped x noExit)).k ?_
  exact (by (repeat refine WholeW.mk WD.w ?_); first | (rw [fAnswer, if_pos (by assumption)]; rfl) | (rw [fAnswer, if_neg (by assumption)]; rfl))
theorem impl_BareResume1_f (x : VGuest) (k : Int) [Q (SmGuest x)] [hpc : Q (-9223372036854775808 ≤ x.Pc)] : FunA Tryz.prog 433 [A (rGuest x), .one (.cptr [.v (.int .i64 k)])] (A (rGuest (fResume k x))) := by
 refine FunA.w 11 Tryz.func433 fun w g0 _ => ?_
 refine cnd (fun hb => ?_) (fun hb => ?_)
 ·refine callG (impl_Held_f (stopped x noExit)).k ?_
  exact (by (repeat refine WholeW.mk WD.w ?_); first | (rw [fResume, if_pos (by assumption)]; rfl) | (rw [fResume, if_neg (by assumption)]; rfl))
 ·exact (by (repeat refine WholeW.mk WD.w ?_); first | (rw [fResume, if_pos (by assumption)]; rfl) | (rw [fResume, if_neg (by assumption)]; rfl))
theorem impl_BareInject1_f (x : VGuest) (p : Int) [Q (SmGuest x)] : FunA Tryz.prog 435 [A (rGuest x), .one (.cptr [.v (.int .i64 p)])] (A (rGuest (fInject p x))) := by
 refine FunA.w 7 Tryz.func435 fun w g0 _ => ?_
 exact (by (repeat refine WholeW.mk WD.w ?_); rfl)
theorem impl_BareCtl1_f (x : VGuest) (c : VCtl) [Q (SmGuest x)] : FunA Tryz.prog 436 [A (rGuest x), .one (.cptr (rCtl c))] (A (rGuest (fCtl c x))) := by
 refine FunA.w 7 Tryz.func436 fun w g0 _ => ?_
 exact (by (repeat refine WholeW.mk WD.w ?_); rfl)
theorem impl_changed_f1 (b : VBare) (g : Int) (c : Bool) {F : VGuest → VGuest} {f : FuncId} {a1 : List D} [Q (SmBare b)] (hf : Callable Tryz.prog f) (hF : ∀ x, guestOk x = true → Q (SmGuest x) → FunA Tryz.prog f [A (rGuest x), .one (.cptr a1)] (A (rGuest (F x)))) (hS : ∀ x, SmGuest x → SmGuest (F x)) : Fun Tryz.prog 427 [A (rBare b), I g, B c, .fn f [.cptr a1]] (RG [.a (rBare ((chg b g c F).getD b)), .c (.v (.bool (chg b g c F).isSome))]) := by
 refine Fun.w 37 Tryz.func427 fun w g0 _ => ?_
 refine callA (impl_GuestAt_r b g) ?_
 refine callP (impl_BareOk_f _).k ?_
 refine cnd (fun hg3 => ?_) (fun hg3 => ?_)
 ·refine callG (impl_copyBare_f _).k ?_
  exact (by rw [chg_no (by first | (left; assumption) | (right; left; assumption) | (right; right; assumption))]; rfl)
 ·refine cnd (fun hg7 => ?_) (fun hg7 => ?_)
  ·refine callG (impl_copyBare_f _).k ?_
   exact (by rw [chg_no (by first | (left; assumption) | (right; left; assumption) | (right; right; assumption))]; rfl)
  ·refine cnd (fun hb => ?_) (fun hb => ?_)
   ·refine callG (impl_copyBare_f _).k ?_
    exact (by rw [chg_no (by first | (left; assumption) | (right; left; assumption) | (right; right; assumption))]; rfl)
   ·have hxo := guestOr_ok (b := b) (g := g) (by assumption) (by assumption)
    have qx : Q (SmGuest (guestOr b g)) := inferInstance
    have qf : Q (SmGuest (F (guestOr b g))) := ⟨hS _ qx.h⟩
    refine regU [6] [(0, 0), (1, 0), (2, 0), (3, 0), (4, 1), (5, 1), (6, 1), (7, 0)] ?_
    refine callCA (hF _ hxo qx) ?_ (hf := hf)
    refine callG (impl_WithGuest_f b g (F (guestOr b g))).k ?_
    exact (by rw [chg_yes (by assumption) (by assumption) (by assumption)]; rfl)
theorem impl_changed_f2 (b : VBare) (g : Int) (c : Bool) {F : VGuest → VGuest} {f : FuncId} {a1 a2 : List D} [Q (SmBare b)] (hf : Callable Tryz.prog f) (hF : ∀ x, guestOk x = true → Q (SmGuest x) → FunA Tryz.prog f [A (rGuest x), .one (.cptr a1), .one (.cptr a2)] (A (rGuest (F x)))) (hS : ∀ x, SmGuest x → SmGuest (F x)) : Fun Tryz.prog 427 [A (rBare b), I g, B c, .fn f [.cptr a1, .cptr a2]] (RG [.a (rBare ((chg b g c F).getD b)), .c (.v (.bool (chg b g c F).isSome))]) := by
 refine Fun.w 37 Tryz.func427 fun w g0 _ => ?_
 refine callA (impl_GuestAt_r b g) ?_
 refine callP (impl_BareOk_f _).k ?_
 refine cnd (fun hg3 => ?_) (fun hg3 => ?_)
 ·refine callG (impl_copyBare_f _).k ?_
  exact (by rw [chg_no (by first | (left; assumption) | (right; left; assumption) | (right; right; assumption))]; rfl)
 ·refine cnd (fun hg7 => ?_) (fun hg7 => ?_)
  ·refine callG (impl_copyBare_f _).k ?_
   exact (by rw [chg_no (by first | (left; assumption) | (right; left; assumption) | (right; right; assumption))]; rfl)
  ·refine cnd (fun hb => ?_) (fun hb => ?_)
   ·refine callG (impl_copyBare_f _).k ?_
    exact (by rw [chg_no (by first | (left; assumption) | (right; left; assumption) | (right; right; assumption))]; rfl)
   ·have hxo := guestOr_ok (b := b) (g := g) (by assumption) (by assumption)
    have qx : Q (SmGuest (guestOr b g)) := inferInstance
    have qf : Q (SmGuest (F (guestOr b g))) := ⟨hS _ qx.h⟩
    refine regU [6] [(0, 0), (1, 0), (2, 0), (3, 0), (4, 1), (5, 1), (6, 1), (7, 0)] ?_
    refine callCA (hF _ hxo qx) ?_ (hf := hf)
    refine callG (impl_WithGuest_f b g (F (guestOr b g))).k ?_
    exact (by rw [chg_yes (by assumption) (by assumption) (by assumption)]; rfl)
theorem impl_BareSet_f (b : VBare) (g : Int) (p : Int) (s : VSlot) [Q (SmBare b)] : Fun Tryz.prog 338 [A (rBare b), I g, I p, A (rSlot s)] (RG [.a (rBare ((bareSet b g p s).getD b)), .c (.v (.bool (bareSet b g p s).isSome))]) := by
 refine Fun.w 22 Tryz.func338 fun w g0 _ => ?_
 refine regU [12] [(0, 0), (1, 0), (2, 0), (8, 0), (3, 1), (4, 0), (5, 0), (6, 1), (7, 0), (9, 1), (10, 0), (11, 0), (12, 1), (13, 0)] ?_
 refine callP (impl_has_f _ _).k ?_
 refine cnd (fun hg4 => ?_) (fun hg4 => ?_)
 ·refine callP (impl_SlotOk_f _ _).k ?_
  refine callG (impl_changed_f2 b g _ (F := fSet p s) (.mk rfl rfl rfl) (fun x hx qx => impl_BareSet1_f x p s) (fun x h => sm_fSet h)).k ?_
  exact (by first | (rw [set_of (c := slotOk s 8) (by first | rfl | (simp [*]; done) | (rw [Bool.eq_iff_iff]; simp [*]; done) | (rw [Bool.eq_iff_iff]; simp [*]; omega) | (rw [Bool.eq_iff_iff]; simp; omega))]; rfl) | (rw [set_of (c := false) (by first | rfl | (simp [*]; done) | (rw [Bool.eq_iff_iff]; simp [*]; done) | (rw [Bool.eq_iff_iff]; simp [*]; omega) | (rw [Bool.eq_iff_iff]; simp; omega))]; rfl))
 ·refine callG (impl_changed_f2 b g _ (F := fSet p s) (.mk rfl rfl rfl) (fun x hx qx => impl_BareSet1_f x p s) (fun x h => sm_fSet h)).k ?_
  exact (by first | (rw [set_of (c := slotOk s 8) (by first | rfl | (simp [*]; done) | (rw [Bool.eq_iff_iff]; simp [*]; done) | (rw [Bool.eq_iff_iff]; simp [*]; omega) | (rw [Bool.eq_iff_iff]; simp; omega))]; rfl) | (rw [set_of (c := false) (by first | rfl | (simp [*]; done) | (rw [Bool.eq_iff_iff]; simp [*]; done) | (rw [Bool.eq_iff_iff]; simp [*]; omega) | (rw [Bool.eq_iff_iff]; simp; omega))]; rfl))
theorem impl_BareFlush_f (b : VBare) (g : Int) (p : Int) [Q (SmBare b)] : Fun Tryz.prog 339 [A (rBare b), I g, I p] (RG [.a (rBare ((bareFlush b g p).getD b)), .c (.v (.bool (bareFlush b g p).isSome))]) := by
 refine Fun.w 16 Tryz.func339 fun w g0 _ => ?_
 refine regU [8] [(0, 0), (1, 0), (2, 0), (4, 0), (3, 1), (5, 1), (6, 0), (7, 0), (8, 1), (9, 0)] ?_
 refine callP (impl_has_f _ _).k ?_
 refine callG (impl_changed_f1 b g _ (F := fFlush p) (.mk rfl rfl rfl) (fun x hx qx => impl_BareFlush1_f x p) (fun x h => sm_fFlush h)).k ?_
 exact (by rw [flush_of (c := decide (0 ≤ p ∧ p < 4)) (by first | rfl | (simp [*]; done) | (rw [Bool.eq_iff_iff]; simp [*]; done) | (rw [Bool.eq_iff_iff]; simp [*]; omega) | (rw [Bool.eq_iff_iff]; simp; omega))]; rfl)
theorem impl_BareAnswer_f (b : VBare) (g : Int) (v : Int) [Q (SmBare b)] : Fun Tryz.prog 340 [A (rBare b), I g, I v] (RG [.a (rBare ((bareAnswer b g v).getD b)), .c (.v (.bool (bareAnswer b g v).isSome))]) := by
 refine Fun.w 29 Tryz.func340 fun w g0 _ => ?_
 refine callP (impl_ExitOf_f b g).k ?_
 refine regU [16] [(0, 0), (1, 0), (2, 0), (3, 0), (4, 0), (5, 0), (6, 0), (7, 0), (8, 0), (9, 0), (12, 0), (10, 1), (11, 0), (13, 1), (14, 0), (15, 0), (16, 1), (17, 0)] ?_
 refine cnd (fun hg4 => ?_) (fun hg4 => ?_)
 ·refine callP (impl_within_f _ _ _).k ?_
  refine callG (impl_changed_f2 b g _ (F := fAnswer (guestOr b g).Exit.Kind v) (.mk rfl rfl rfl) (fun x hx qx => have qp : Q (-9223372036854775808 ≤ x.Pc) := ⟨by have := guest_rng hx; omega⟩; impl_BareAnswer1_f x (guestOr b g).Exit.Kind v) (fun x h => sm_fAnswer h)).k ?_
  exact (by first | (rw [answer_of (c := inR v 0 99) (by first | (simp [*]; done) | (simp [*]; omega) | (simp; omega) | (simp_all; done) | (simp_all; omega))]; rfl) | (rw [answer_of (c := false) (by first | (simp [*]; done) | (simp [*]; omega) | (simp; omega) | (simp_all; done) | (simp_all; omega))]; rfl))
 ·refine cnd (fun hg8 => ?_) (fun hg8 => ?_)
  ·refine callP (impl_within_f _ _ _).k ?_
   refine callG (impl_changed_f2 b g _ (F := fAnswer (guestOr b g).Exit.Kind v) (.mk rfl rfl rfl) (fun x hx qx => have qp : Q (-9223372036854775808 ≤ x.Pc) := ⟨by have := guest_rng hx; omega⟩; impl_BareAnswer1_f x (guestOr b g).Exit.Kind v) (fun x h => sm_fAnswer h)).k ?_
   exact (by first | (rw [answer_of (c := inR v 0 99) (by first | (simp [*]; done) | (simp [*]; omega) | (simp; omega) | (simp_all; done) | (simp_all; omega))]; rfl) | (rw [answer_of (c := false) (by first | (simp [*]; done) | (simp [*]; omega) | (simp; omega) | (simp_all; done) | (simp_all; omega))]; rfl))
  ·refine callG (impl_changed_f2 b g _ (F := fAnswer (guestOr b g).Exit.Kind v) (.mk rfl rfl rfl) (fun x hx qx => have qp : Q (-9223372036854775808 ≤ x.Pc) := ⟨by have := guest_rng hx; omega⟩; impl_BareAnswer1_f x (guestOr b g).Exit.Kind v) (fun x h => sm_fAnswer h)).k ?_
   exact (by first | (rw [answer_of (c := inR v 0 99) (by first | (simp [*]; done) | (simp [*]; omega) | (simp; omega) | (simp_all; done) | (simp_all; omega))]; rfl) | (rw [answer_of (c := false) (by first | (simp [*]; done) | (simp [*]; omega) | (simp; omega) | (simp_all; done) | (simp_all; omega))]; rfl))
theorem impl_BareResume_f (b : VBare) (g : Int) [Q (SmBare b)] : Fun Tryz.prog 341 [A (rBare b), I g] (RG [.a (rBare ((bareResume b g).getD b)), .c (.v (.bool (bareResume b g).isSome))]) := by
 refine Fun.w 23 Tryz.func341 fun w g0 _ => ?_
 refine callP (impl_ExitOf_f b g).k ?_
 refine cnd (fun hg4 => ?_) (fun hg4 => ?_)
 ·refine callG (impl_changed_f1 b g _ (F := fResume (guestOr b g).Exit.Kind) (.mk rfl rfl rfl) (fun x hx qx => have qp : Q (-9223372036854775808 ≤ x.Pc) := ⟨by have := guest_rng hx; omega⟩; impl_BareResume1_f x (guestOr b g).Exit.Kind) (fun x h => sm_fResume h)).k ?_
  exact (by first | (rw [resume_of (c := true) (by first | (simp [*]; done) | (simp [*]; omega) | (simp; omega) | (simp_all; done) | (simp_all; omega))]; rfl) | (rw [resume_of (c := false) (by first | (simp [*]; done) | (simp [*]; omega) | (simp; omega) | (simp_all; done) | (simp_all; omega))]; rfl) | (rw [resume_of (c := decide ((guestOr b g).Exit.Kind = 4)) (by first | (simp [*]; done) | (simp [*]; omega) | (simp; omega) | (simp_all; done) | (simp_all; omega))]; rfl) | (rw [resume_of (c := (guestOr b g).Exit.Kind == 4) (by first | (simp [*]; done) | (simp [*]; omega) | (simp; omega) | (simp_all; done) | (simp_all; omega))]; rfl))
 ·refine callG (impl_changed_f1 b g _ (F := fResume (guestOr b g).Exit.Kind) (.mk rfl rfl rfl) (fun x hx qx => have qp : Q (-9223372036854775808 ≤ x.Pc) := ⟨by have := guest_rng hx; omega⟩; impl_BareResume1_f x (guestOr b g).Exit.Kind) (fun x h => sm_fResume h)).k ?_
  exact (by first | (rw [resume_of (c := true) (by first | (simp [*]; done) | (simp [*]; omega) | (simp; omega) | (simp_all; done) | (simp_all; omega))]; rfl) | (rw [resume_of (c := false) (by first | (simp [*]; done) | (simp [*]; omega) | (simp; omega) | (simp_all; done) | (simp_all; omega))]; rfl) | (rw [resume_of (c := decide ((guestOr b g).Exit.Kind = 4)) (by first | (simp [*]; done) | (simp [*]; omega) | (simp; omega) | (simp_all; done) | (simp_all; omega))]; rfl) | (rw [resume_of (c := (guestOr b g).Exit.Kind == 4) (by first | (simp [*]; done) | (simp [*]; omega) | (simp; omega) | (simp_all; done) | (simp_all; omega))]; rfl))
theorem impl_BareInject_f (b : VBare) (g : Int) (n : Int) [Q (SmBare b)] : Fun Tryz.prog 342 [A (rBare b), I g, I n] (RG [.a (rBare ((bareInject b g n).getD b)), .c (.v (.bool (bareInject b g n).isSome))]) := by
 refine Fun.w 32 Tryz.func342 fun w g0 _ => ?_
 refine callG (impl_GuestAt_f b g).k ?_
 refine callG (impl_PostIrq_f (guestOr b g).Pending n).k ?_
 refine callG (impl_changed_f1 b g _ (F := fInject ((postIrq (guestOr b g).Pending n).getD (guestOr b g).Pending)) (.mk rfl rfl rfl) (fun x hx qx => impl_BareInject1_f x ((postIrq (guestOr b g).Pending n).getD (guestOr b g).Pending)) (fun x h => sm_fInject h)).k ?_
 exact (by rw [inject_of]; rfl)
theorem impl_BareCtl_f (b : VBare) (g : Int) (c : VCtl) [Q (SmBare b)] : Fun Tryz.prog 343 [A (rBare b), I g, A (rCtl c)] (RG [.a (rBare ((bareCtl b g c).getD b)), .c (.v (.bool (bareCtl b g c).isSome))]) := by
 refine Fun.w 16 Tryz.func343 fun w g0 _ => ?_
 refine regU [8] [(0, 0), (1, 0), (2, 0), (4, 0), (3, 1), (5, 1), (6, 0), (7, 0), (8, 1), (9, 0)] ?_
 refine callP (impl_CtlOk_f c).k ?_
 refine callG (impl_changed_f1 b g _ (F := fCtl c) (.mk rfl rfl rfl) (fun x hx qx => impl_BareCtl1_f x c) (fun x h => sm_fCtl h)).k ?_
 exact (by rw [ctl_of (c := ctlOk c) rfl]; rfl)
theorem impl_BarePoke_f (b : VBare) (p : Int) (c : Int) (v : Int) [Q (SmBare b)] : Fun Tryz.prog 344 [A (rBare b), I p, I c, I v] (RG [.a (rBare ((barePoke b p c v).getD b)), .c (.v (.bool (barePoke b p c v).isSome))]) := by
 refine Fun.w 40 Tryz.func344 fun w g0 _ => ?_
 refine callG (impl_copyBare_f b).k ?_
 refine callP (impl_BareOk_f _).k ?_
 refine cnd (fun hg3 => ?_) (fun hg3 => ?_)
 ·exact (by first | (rw [poke_no (by first | (left; assumption) | (right; left; omega) | (right; right; left; omega) | (right; right; right; omega))]; rfl) | (rw [poke_yes (by assumption) (by omega) (by omega) (by omega)]; rfl))
 ·refine callP (impl_has_f _ _).k ?_
  refine cnd (fun hg8 => ?_) (fun hg8 => ?_)
  ·exact (by first | (rw [poke_no (by first | (left; assumption) | (right; left; omega) | (right; right; left; omega) | (right; right; right; omega))]; rfl) | (rw [poke_yes (by assumption) (by omega) (by omega) (by omega)]; rfl))
  ·refine callP (impl_has_f _ _).k ?_
   refine cnd (fun hg13 => ?_) (fun hg13 => ?_)
   ·exact (by first | (rw [poke_no (by first | (left; assumption) | (right; left; omega) | (right; right; left; omega) | (right; right; right; omega))]; rfl) | (rw [poke_yes (by assumption) (by omega) (by omega) (by omega)]; rfl))
   ·refine callP (impl_within_f _ _ _).k ?_
    refine cnd (fun hb => ?_) (fun hb => ?_)
    ·exact (by first | (rw [poke_no (by first | (left; assumption) | (right; left; omega) | (right; right; left; omega) | (right; right; right; omega))]; rfl) | (rw [poke_yes (by assumption) (by omega) (by omega) (by omega)]; rfl))
    ·refine callL (impl_WithCell_f b.Memory p c v).k ?_
     exact (by first | (rw [poke_no (by first | (left; assumption) | (right; left; omega) | (right; right; left; omega) | (right; right; right; omega))]; rfl) | (rw [poke_yes (by assumption) (by omega) (by omega) (by omega)]; rfl))
theorem spec_BarePoke_f (b : VBare) (p : Int) (c : Int) (v : Int) [Q (SmBare b)] : Fun Tryz.prog 242 [A (rBare b), I p, I c, I v] (RG [.a (rBare ((barePoke b p c v).getD b)), .c (.v (.bool (barePoke b p c v).isSome))]) := by
 refine Fun.w 39 Tryz.func242 fun w g0 _ => ?_
 refine callG (spec_l17Copy_f b).k ?_
 refine callP (spec_BareOk_f _).k ?_
 refine cnd (fun hg3 => ?_) (fun hg3 => ?_)
 ·exact (by first | (rw [poke_no (by first | (left; assumption) | (right; left; omega) | (right; right; left; omega) | (right; right; right; omega))]; rfl) | (rw [poke_yes (by assumption) (by omega) (by omega) (by omega)]; rfl))
 ·refine callP (spec_l01In_f _ _ _).k ?_
  refine cnd (fun hg8 => ?_) (fun hg8 => ?_)
  ·exact (by first | (rw [poke_no (by first | (left; assumption) | (right; left; omega) | (right; right; left; omega) | (right; right; right; omega))]; rfl) | (rw [poke_yes (by assumption) (by omega) (by omega) (by omega)]; rfl))
  ·refine callP (spec_l01In_f _ _ _).k ?_
   refine cnd (fun hg13 => ?_) (fun hg13 => ?_)
   ·exact (by first | (rw [poke_no (by first | (left; assumption) | (right; left; omega) | (right; right; left; omega) | (right; right; right; omega))]; rfl) | (rw [poke_yes (by assumption) (by omega) (by omega) (by omega)]; rfl))
   ·refine callP (spec_l01In_f _ _ _).k ?_
    refine cnd (fun hb => ?_) (fun hb => ?_)
    ·exact (by first | (rw [poke_no (by first | (left; assumption) | (right; left; omega) | (right; right; left; omega) | (right; right; right; omega))]; rfl) | (rw [poke_yes (by assumption) (by omega) (by omega) (by omega)]; rfl))
    ·refine callL (spec_WithCell_f b.Memory p c v).k ?_
     exact (by first | (rw [poke_no (by first | (left; assumption) | (right; left; omega) | (right; right; left; omega) | (right; right; right; omega))]; rfl) | (rw [poke_yes (by assumption) (by omega) (by omega) (by omega)]; rfl))
theorem spec_BareSet_f (b : VBare) (g : Int) (p : Int) (s : VSlot) [Q (SmBare b)] : Fun Tryz.prog 235 [A (rBare b), I g, I p, A (rSlot s)] (RG [.a (rBare ((bareSet b g p s).getD b)), .c (.v (.bool (bareSet b g p s).isSome))]) := by
 refine Fun.w 42 Tryz.func235 fun w g0 _ => ?_
 refine callG (spec_l17Copy_f b).k ?_
 refine callP (spec_l19Is_f _ _).k ?_
 refine cnd (fun hg4 => ?_) (fun hg4 => ?_)
 ·exact (by first | (rw [bareSet, onGuest_no (by assumption)]; rfl) | (rw [set_of (c := false) (by first | rfl | (simp [*]; done) | (rw [Bool.eq_iff_iff]; simp [*]; done) | (rw [Bool.eq_iff_iff]; simp [*]; omega) | (rw [Bool.eq_iff_iff]; simp; omega)), chg_no (.inr (.inr rfl))]; rfl))
 ·refine callP (spec_l01In_f _ _ _).k ?_
  refine cnd (fun hg9 => ?_) (fun hg9 => ?_)
  ·exact (by first | (rw [bareSet, onGuest_no (by assumption)]; rfl) | (rw [set_of (c := false) (by first | rfl | (simp [*]; done) | (rw [Bool.eq_iff_iff]; simp [*]; done) | (rw [Bool.eq_iff_iff]; simp [*]; omega) | (rw [Bool.eq_iff_iff]; simp; omega)), chg_no (.inr (.inr rfl))]; rfl))
  ·refine callP (spec_SlotOk_f _ _).k ?_
   refine cnd (fun hb => ?_) (fun hb => ?_)
   ·exact (by first | (rw [bareSet, onGuest_no (by assumption)]; rfl) | (rw [set_of (c := false) (by first | rfl | (simp [*]; done) | (rw [Bool.eq_iff_iff]; simp [*]; done) | (rw [Bool.eq_iff_iff]; simp [*]; omega) | (rw [Bool.eq_iff_iff]; simp; omega)), chg_no (.inr (.inr rfl))]; rfl))
   ·have hon : onG b g = true := by assumption
    have hgg := onG_yes hon
    obtain ⟨x, hx⟩ : ∃ x, b.Guests[g.toNat]? = some x := ⟨_, List.getElem?_eq_getElem (by omega)⟩
    have qx : Q (SmGuest x) := ⟨ElS.h x (List.mem_of_getElem? hx)⟩
    have hxr := guest_rng (bare_guest hgg.1 hx)
    have qp : Q (-9223372036854775808 ≤ x.Pc) := ⟨by omega⟩
    refine regU [14] [(0, 0), (1, 0), (2, 0), (3, 0), (4, 0), (5, 0), (6, 0), (7, 0), (8, 0), (9, 0), (10, 0), (11, 1), (12, 0), (13, 0), (14, 1)] ?_
    first | refine ixm (by assumption) ?_ | refine bnd ?_ | refine bndi ?_ | refine ixkq (fun y33 hy33 qy33 ly33 => ?_) | refine ixiq (fun y33 hy33 qy33 ly33 => ?_)
    first | refine ixs ?_ | refine ixo (by assumption) ?_ | refine ixoq (fun z1 hz1 qz1 lz1 => ?_) | skip
    refine callL (spec_WithSlot_f x.Written p s).k ?_
    first | refine ixm (by assumption) ?_ | refine bnd ?_ | refine bndi ?_ | refine ixkq (fun y39 hy39 qy39 ly39 => ?_) | refine ixiq (fun y39 hy39 qy39 ly39 => ?_)
    first | refine ixs ?_ | refine ixo (by assumption) ?_ | refine ixoq (fun z2 hz2 qz2 lz2 => ?_) | skip
    exact (by rw [bareSet, onGuest_at hon hx, if_pos (by first | (simp [*]; done) | (simp [*]; omega))]; simp only [Option.map, Option.getD, rBare, List.map_set]; rfl)
theorem spec_BareFlush_f (b : VBare) (g : Int) (p : Int) [Q (SmBare b)] : Fun Tryz.prog 236 [A (rBare b), I g, I p] (RG [.a (rBare ((bareFlush b g p).getD b)), .c (.v (.bool (bareFlush b g p).isSome))]) := by
 refine Fun.w 42 Tryz.func236 fun w g0 _ => ?_
 refine callG (spec_l17Copy_f b).k ?_
 refine callP (spec_l19Is_f _ _).k ?_
 refine cnd (fun hg4 => ?_) (fun hg4 => ?_)
 ·exact (by first | (rw [bareFlush, onGuest_no (by assumption)]; rfl) | (rw [flush_of (c := false) (by first | rfl | (simp [*]; done) | (rw [Bool.eq_iff_iff]; simp [*]; done) | (rw [Bool.eq_iff_iff]; simp [*]; omega) | (rw [Bool.eq_iff_iff]; simp; omega)), chg_no (.inr (.inr rfl))]; rfl))
 ·refine callP (spec_l01In_f _ _ _).k ?_
  refine cnd (fun hb => ?_) (fun hb => ?_)
  ·exact (by first | (rw [bareFlush, onGuest_no (by assumption)]; rfl) | (rw [flush_of (c := false) (by first | rfl | (simp [*]; done) | (rw [Bool.eq_iff_iff]; simp [*]; done) | (rw [Bool.eq_iff_iff]; simp [*]; omega) | (rw [Bool.eq_iff_iff]; simp; omega)), chg_no (.inr (.inr rfl))]; rfl))
  ·have hon : onG b g = true := by assumption
   have hgg := onG_yes hon
   obtain ⟨x, hx⟩ : ∃ x, b.Guests[g.toNat]? = some x := ⟨_, List.getElem?_eq_getElem (by omega)⟩
   have qx : Q (SmGuest x) := ⟨ElS.h x (List.mem_of_getElem? hx)⟩
   have hxr := guest_rng (bare_guest hgg.1 hx)
   have qp : Q (-9223372036854775808 ≤ x.Pc) := ⟨by omega⟩
   refine regU [21] [(0, 0), (1, 0), (2, 0), (3, 0), (4, 0), (5, 0), (6, 0), (7, 0), (8, 0), (9, 0), (10, 0), (11, 0), (12, 0), (13, 0), (14, 0), (15, 0), (16, 0), (17, 1), (18, 1), (19, 0), (20, 0), (21, 1)] ?_
   first | refine ixm (by assumption) ?_ | refine bnd ?_ | refine bndi ?_ | refine ixkq (fun y26 hy26 qy26 ly26 => ?_) | refine ixiq (fun y26 hy26 qy26 ly26 => ?_)
   first | refine ixs ?_ | refine ixo (by assumption) ?_ | refine ixoq (fun z1 hz1 qz1 lz1 => ?_) | skip
   first | refine ixm (by assumption) ?_ | refine bnd ?_ | refine bndi ?_ | refine ixkq (fun y33 hy33 qy33 ly33 => ?_) | refine ixiq (fun y33 hy33 qy33 ly33 => ?_)
   first | refine ixs ?_ | refine ixo (by assumption) ?_ | refine ixoq (fun z2 hz2 qz2 lz2 => ?_) | skip
   refine callP (spec_SlotAt_f x.Written p).k ?_
   refine callL (spec_WithSlot_f x.Live p (slotAt x.Written p)).k ?_
   first | refine ixm (by assumption) ?_ | refine bnd ?_ | refine bndi ?_ | refine ixkq (fun y39 hy39 qy39 ly39 => ?_) | refine ixiq (fun y39 hy39 qy39 ly39 => ?_)
   first | refine ixs ?_ | refine ixo (by assumption) ?_ | refine ixoq (fun z3 hz3 qz3 lz3 => ?_) | skip
   exact (by rw [bareFlush, onGuest_at hon hx, if_pos (by first | (simp [*]; done) | (simp [*]; omega))]; simp only [Option.map, Option.getD, rBare, List.map_set]; rfl)
theorem spec_BareCtl_f (b : VBare) (g : Int) (c : VCtl) [Q (SmBare b)] : Fun Tryz.prog 240 [A (rBare b), I g, A (rCtl c)] (RG [.a (rBare ((bareCtl b g c).getD b)), .c (.v (.bool (bareCtl b g c).isSome))]) := by
 refine Fun.w 27 Tryz.func240 fun w g0 _ => ?_
 refine callG (spec_l17Copy_f b).k ?_
 refine callP (spec_l19Is_f _ _).k ?_
 refine cnd (fun hg4 => ?_) (fun hg4 => ?_)
 ·exact (by first | (rw [bareCtl, onGuest_no (by assumption)]; rfl) | (rw [ctl_of (c := false) (by simp [*]), chg_no (.inr (.inr rfl))]; rfl))
 ·refine callP (spec_CtlOk_f _).k ?_
  refine cnd (fun hb => ?_) (fun hb => ?_)
  ·exact (by first | (rw [bareCtl, onGuest_no (by assumption)]; rfl) | (rw [ctl_of (c := false) (by simp [*]), chg_no (.inr (.inr rfl))]; rfl))
  ·have hon : onG b g = true := by assumption
   have hgg := onG_yes hon
   obtain ⟨x, hx⟩ : ∃ x, b.Guests[g.toNat]? = some x := ⟨_, List.getElem?_eq_getElem (by omega)⟩
   have qx : Q (SmGuest x) := ⟨ElS.h x (List.mem_of_getElem? hx)⟩
   have hxr := guest_rng (bare_guest hgg.1 hx)
   have qp : Q (-9223372036854775808 ≤ x.Pc) := ⟨by omega⟩
   first | refine ixm (by assumption) ?_ | refine bnd ?_ | refine bndi ?_ | refine ixkq (fun y24 hy24 qy24 ly24 => ?_) | refine ixiq (fun y24 hy24 qy24 ly24 => ?_)
   first | refine ixs ?_ | refine ixo (by assumption) ?_ | refine ixoq (fun z1 hz1 qz1 lz1 => ?_) | skip
   exact (by rw [bareCtl, onGuest_at hon hx, if_pos (by assumption)]; simp only [Option.map, Option.getD, rBare, List.map_set]; rfl)
theorem spec_BareAnswer_f (b : VBare) (g : Int) (v : Int) [Q (SmBare b)] : Fun Tryz.prog 237 [A (rBare b), I g, I v] (RG [.a (rBare ((bareAnswer b g v).getD b)), .c (.v (.bool (bareAnswer b g v).isSome))]) := by
 refine Fun.w 45 Tryz.func237 fun w g0 _ => ?_
 refine callG (spec_l17Copy_f b).k ?_
 refine callP (spec_l19Is_f _ _).k ?_
 refine cnd (fun hg4 => ?_) (fun hg4 => ?_)
 ·exact (by first | (rw [bareAnswer, onGuest_no (by assumption)]; rfl) | (rw [answer_of (c := false) (by simp; omega), chg_no (.inr (.inr rfl))]; rfl))
 ·refine callP (spec_l01In_f _ _ _).k ?_
  refine cnd (fun hb => ?_) (fun hb => ?_)
  ·exact (by first | (rw [bareAnswer, onGuest_no (by assumption)]; rfl) | (rw [answer_of (c := false) (by simp; omega), chg_no (.inr (.inr rfl))]; rfl))
  ·have hon : onG b g = true := by assumption
   have hgg := onG_yes hon
   obtain ⟨x, hx⟩ : ∃ x, b.Guests[g.toNat]? = some x := ⟨_, List.getElem?_eq_getElem (by omega)⟩
   have qx : Q (SmGuest x) := ⟨ElS.h x (List.mem_of_getElem? hx)⟩
   have hxr := guest_rng (bare_guest hgg.1 hx)
   have qp : Q (-9223372036854775808 ≤ x.Pc) := ⟨by omega⟩
   first | refine ixm (by assumption) ?_ | refine bnd ?_ | refine bndi ?_ | refine ixkq (fun y24 hy24 qy24 ly24 => ?_) | refine ixiq (fun y24 hy24 qy24 ly24 => ?_)
   first | refine ixs ?_ | refine ixo (by assumption) ?_ | refine ixoq (fun z1 hz1 qz1 lz1 => ?_) | skip
   refine cnd (fun hb2 => ?_) (fun hb2 => ?_)
   ·refine regU [8] [(0, 0), (1, 0), (2, 0), (3, 0), (4, 0), (5, 1), (6, 1), (7, 0), (8, 1)] ?_
    refine callG (spec_Stopped_f { x with A := v } noExit).k ?_
    refine callG (spec_Moved_f (stopped { x with A := v } noExit)).k ?_
    first | refine ixm (by assumption) ?_ | refine bnd ?_ | refine bndi ?_ | refine ixkq (fun y43 hy43 qy43 ly43 => ?_) | refine ixiq (fun y43 hy43 qy43 ly43 => ?_)
    first | refine ixs ?_ | refine ixo (by assumption) ?_ | refine ixoq (fun z2 hz2 qz2 lz2 => ?_) | skip
    exact (by first | (rw [bareAnswer, onGuest_at hon hx, if_pos ⟨by omega, decide_eq_true (by omega)⟩, if_pos (by assumption)]; simp only [Option.map, Option.getD, rBare, List.map_set]; rfl) | (rw [bareAnswer, onGuest_at hon hx, if_pos ⟨by omega, decide_eq_true (by omega)⟩, if_neg (by assumption)]; simp only [Option.map, Option.getD, rBare, List.map_set]; rfl))
   ·refine cnd (fun hb3 => ?_) (fun hb3 => ?_)
    ·refine regU [8] [(0, 0), (1, 0), (2, 0), (3, 0), (4, 0), (5, 1), (6, 1), (7, 0), (8, 1)] ?_
     refine callG (spec_Stopped_f x noExit).k ?_
     refine callG (spec_Moved_f (stopped x noExit)).k ?_
     first | refine ixm (by assumption) ?_ | refine bnd ?_ | refine bndi ?_ | refine ixkq (fun y43 hy43 qy43 ly43 => ?_) | refine ixiq (fun y43 hy43 qy43 ly43 => ?_)
     first | refine ixs ?_ | refine ixo (by assumption) ?_ | refine ixoq (fun z3 hz3 qz3 lz3 => ?_) | skip
     exact (by first | (rw [bareAnswer, onGuest_at hon hx, if_pos ⟨by omega, decide_eq_true (by omega)⟩, if_pos (by assumption)]; simp only [Option.map, Option.getD, rBare, List.map_set]; rfl) | (rw [bareAnswer, onGuest_at hon hx, if_pos ⟨by omega, decide_eq_true (by omega)⟩, if_neg (by assumption)]; simp only [Option.map, Option.getD, rBare, List.map_set]; rfl))
    ·exact (by rw [bareAnswer, onGuest_at hon hx]; (first | rw [if_neg (fun e => by have := e.1; omega)] | rw [if_neg (by omega), if_neg (by omega)]); rfl)
theorem spec_BareResume_f (b : VBare) (g : Int) [Q (SmBare b)] : Fun Tryz.prog 238 [A (rBare b), I g] (RG [.a (rBare ((bareResume b g).getD b)), .c (.v (.bool (bareResume b g).isSome))]) := by
 refine Fun.w 43 Tryz.func238 fun w g0 _ => ?_
 refine callG (spec_l17Copy_f b).k ?_
 refine callP (spec_l19Is_f _ _).k ?_
 refine cnd (fun hb => ?_) (fun hb => ?_)
 ·exact (by rw [bareResume, onGuest_no (by assumption)]; rfl)
 ·have hon : onG b g = true := by assumption
  have hgg := onG_yes hon
  obtain ⟨x, hx⟩ : ∃ x, b.Guests[g.toNat]? = some x := ⟨_, List.getElem?_eq_getElem (by omega)⟩
  have qx : Q (SmGuest x) := ⟨ElS.h x (List.mem_of_getElem? hx)⟩
  have hxr := guest_rng (bare_guest hgg.1 hx)
  have qp : Q (-9223372036854775808 ≤ x.Pc) := ⟨by omega⟩
  first | refine ixm (by assumption) ?_ | refine bnd ?_ | refine bndi ?_ | refine ixkq (fun y17 hy17 qy17 ly17 => ?_) | refine ixiq (fun y17 hy17 qy17 ly17 => ?_)
  first | refine ixs ?_ | refine ixo (by assumption) ?_ | refine ixoq (fun z1 hz1 qz1 lz1 => ?_) | skip
  refine cnd (fun hb2 => ?_) (fun hb2 => ?_)
  ·refine regU [7] [(0, 0), (1, 0), (2, 0), (3, 0), (4, 0), (5, 1), (6, 0), (7, 1)] ?_
   refine callG (spec_Stopped_f x noExit).k ?_
   first | refine ixm (by assumption) ?_ | refine bnd ?_ | refine bndi ?_ | refine ixkq (fun y31 hy31 qy31 ly31 => ?_) | refine ixiq (fun y31 hy31 qy31 ly31 => ?_)
   first | refine ixs ?_ | refine ixo (by assumption) ?_ | refine ixoq (fun z2 hz2 qz2 lz2 => ?_) | skip
   exact (by first | (rw [bareResume, onGuest_at hon hx, if_pos (by assumption)]; simp only [Option.map, Option.getD, rBare, List.map_set]; rfl) | (rw [bareResume, onGuest_at hon hx, if_neg (by assumption), if_pos (by assumption)]; simp only [Option.map, Option.getD, rBare, List.map_set]; rfl))
  ·refine cnd (fun hb3 => ?_) (fun hb3 => ?_)
   ·refine regU [8] [(0, 0), (1, 0), (2, 0), (3, 0), (4, 0), (5, 1), (6, 1), (7, 0), (8, 1)] ?_
    refine callG (spec_Stopped_f x noExit).k ?_
    refine callG (spec_Held_f (stopped x noExit)).k ?_
    first | refine ixm (by assumption) ?_ | refine bnd ?_ | refine bndi ?_ | refine ixkq (fun y41 hy41 qy41 ly41 => ?_) | refine ixiq (fun y41 hy41 qy41 ly41 => ?_)
    first | refine ixs ?_ | refine ixo (by assumption) ?_ | refine ixoq (fun z3 hz3 qz3 lz3 => ?_) | skip
    exact (by first | (rw [bareResume, onGuest_at hon hx, if_pos (by assumption)]; simp only [Option.map, Option.getD, rBare, List.map_set]; rfl) | (rw [bareResume, onGuest_at hon hx, if_neg (by assumption), if_pos (by assumption)]; simp only [Option.map, Option.getD, rBare, List.map_set]; rfl))
   ·exact (by rw [bareResume, onGuest_at hon hx]; (first | rw [if_neg (fun e => by have := e.1; omega)] | rw [if_neg (by omega), if_neg (by omega)]); rfl)
theorem spec_BareInject_f (b : VBare) (g : Int) (n : Int) [Q (SmBare b)] : Fun Tryz.prog 239 [A (rBare b), I g, I n] (RG [.a (rBare ((bareInject b g n).getD b)), .c (.v (.bool (bareInject b g n).isSome))]) := by
 refine Fun.w 36 Tryz.func239 fun w g0 _ => ?_
 refine callG (spec_l17Copy_f b).k ?_
 refine callP (spec_l19Is_f _ _).k ?_
 refine cnd (fun hb => ?_) (fun hb => ?_)
 ·exact (by rw [bareInject, onGuest_no (by assumption)]; rfl)
 ·have hon : onG b g = true := by assumption
  have hgg := onG_yes hon
  obtain ⟨x, hx⟩ : ∃ x, b.Guests[g.toNat]? = some x := ⟨_, List.getElem?_eq_getElem (by omega)⟩
  have qx : Q (SmGuest x) := ⟨ElS.h x (List.mem_of_getElem? hx)⟩
  have hxr := guest_rng (bare_guest hgg.1 hx)
  have qp : Q (-9223372036854775808 ≤ x.Pc) := ⟨by omega⟩
  first | refine ixm (by assumption) ?_ | refine bnd ?_ | refine bndi ?_ | refine ixkq (fun y21 hy21 qy21 ly21 => ?_) | refine ixiq (fun y21 hy21 qy21 ly21 => ?_)
  first | refine ixs ?_ | refine ixo (by assumption) ?_ | refine ixoq (fun z1 hz1 qz1 lz1 => ?_) | skip
  refine callG (spec_PostIrq_f x.Pending n).k ?_
  first | refine ixm (by assumption) ?_ | refine bnd ?_ | refine bndi ?_ | refine ixkq (fun y32 hy32 qy32 ly32 => ?_) | refine ixiq (fun y32 hy32 qy32 ly32 => ?_)
  first | refine ixs ?_ | refine ixo (by assumption) ?_ | refine ixoq (fun z2 hz2 qz2 lz2 => ?_) | skip
  exact (by show _ = resG [RD.a (rBare ((bareInject b g n).getD b)), RD.c (.v (.bool (bareInject b g n).isSome))]; rw [inject_at hon hx]; rfl)
end Go.Proofs.YteelmdpahpggkaaGreat.T

