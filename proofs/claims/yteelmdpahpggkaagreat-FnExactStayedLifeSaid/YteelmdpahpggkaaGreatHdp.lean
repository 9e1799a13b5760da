
import Derived.Test.YteelmdpahpggkaaGreatHqp
namespace Go.Proofs.YteelmdpahpggkaaGreat.T
open Go
set_option linter.unusedVariables false
set_option linter.unusedSimpArgs false
set_option maxRecDepth 100000
set_option maxHeartbeats 1000000
theorem laws_toIns_f (x : VIns) : Fun Tryz.prog 336 [A (rIns x)] (RP (A (rIns x))) := by
 refine Fun.w 11 Tryz.func336 fun w g0 _ => ?_
 exact rfl
theorem laws_toInsS_f (xs : List VIns) (hmx : SmInsS xs) : Fun Tryz.prog 247 [L 2 (xs.map dIns)] (RL 2 (xs.map dIns)) := by
 refine Fun.w 23 Tryz.func247 fun w g0 _ => ?_
 have hlen : xs.length ≤ 1048576 := hmx
 refine len ?_
 refine mkn ?_
 refine loopW [] [] [] (fun (k : Nat) => [.set 0 (L 2 (xs.map dIns)), .set 3 (.one (.c (.ref ⟨7, [], 0⟩))), .set 4 (I k)]) (fun (k : Nat) => [(7, ⟨false, [.own (.sl 2 (fill dIns (dIns (VIns.mk 0 0)) xs k))]⟩)]) (fun (k : Nat) => k ≤ xs.length) (fun (k : Nat) => xs.length - k) (0) (by simp) ?_
 refine ⟨(hdw (by repeat' first | exact rfl | refine And.intro ?_ ?_ | exact True.intro | (refine eqS ?_; rw [← fill_zero]))), fun k hyp N1 hN1 => ?_⟩
 have hyp : k ≤ xs.length := hyp
 refine len ?_
 refine spl (fun hb => ?_) (fun hb => ?_)
 ·have hk : k < xs.length := by simpa using hb
  obtain ⟨x, hx⟩ := at_of (xs := xs) (k := k) hk
  have hg := fill_get (f := dIns) (z := (dIns (VIns.mk 0 0))) hk
  have hs := fill_set (f := dIns) (z := (dIns (VIns.mk 0 0))) hx
  refine ixm hx ?_
  refine callP (laws_toIns_f x).k ?_
  refine bnd (?_) (by rw [fill_len]; omega)
  refine ixn hg ?_
  refine rng ?_
  refine hN1 _ _ _ ?_
  refine nxt [] (k + 1) (by omega) (by repeat' first | exact rfl | refine And.intro ?_ ?_ | exact True.intro | (refine eqS ?_; first | (rw [← hs]) | (simp only [← hs])))
 ·refine hN1 _ _ _ ?_
  exact by simp at hb; rw [← fill_all (f := dIns) (z := (dIns (VIns.mk 0 0))) (k := k) (by omega)]; rfl
theorem laws_toAct_f (x : VAct) : Fun Tryz.prog 155 [A (rAct x)] (RP (A (rAct x))) := by
 refine Fun.w 23 Tryz.func155 fun w g0 _ => ?_
 exact rfl
theorem laws_toActS_f (xs : List VAct) (hmx : SmActS xs) : Fun Tryz.prog 51 [L 6 (xs.map dAct)] (RL 6 (xs.map dAct)) := by
 refine Fun.w 23 Tryz.func51 fun w g0 _ => ?_
 have hlen : xs.length ≤ 1048576 := hmx
 refine len ?_
 refine mkn ?_
 refine loopW [] [] [] (fun (k : Nat) => [.set 0 (L 6 (xs.map dAct)), .set 3 (.one (.c (.ref ⟨7, [], 0⟩))), .set 4 (I k)]) (fun (k : Nat) => [(7, ⟨false, [.own (.sl 6 (fill dAct (dAct (VAct.mk 0 0 0 0 0 0)) xs k))]⟩)]) (fun (k : Nat) => k ≤ xs.length) (fun (k : Nat) => xs.length - k) (0) (by simp) ?_
 refine ⟨(hdw (by repeat' first | exact rfl | refine And.intro ?_ ?_ | exact True.intro | (refine eqS ?_; rw [← fill_zero]))), fun k hyp N1 hN1 => ?_⟩
 have hyp : k ≤ xs.length := hyp
 refine len ?_
 refine spl (fun hb => ?_) (fun hb => ?_)
 ·have hk : k < xs.length := by simpa using hb
  obtain ⟨x, hx⟩ := at_of (xs := xs) (k := k) hk
  have hg := fill_get (f := dAct) (z := (dAct (VAct.mk 0 0 0 0 0 0))) hk
  have hs := fill_set (f := dAct) (z := (dAct (VAct.mk 0 0 0 0 0 0))) hx
  refine ixm hx ?_
  refine callP (laws_toAct_f x).k ?_
  refine bnd (?_) (by rw [fill_len]; omega)
  refine ixn hg ?_
  refine rng ?_
  refine hN1 _ _ _ ?_
  refine nxt [] (k + 1) (by omega) (by repeat' first | exact rfl | refine And.intro ?_ ?_ | exact True.intro | (refine eqS ?_; first | (rw [← hs]) | (simp only [← hs])))
 ·refine hN1 _ _ _ ?_
  exact by simp at hb; rw [← fill_all (f := dAct) (z := (dAct (VAct.mk 0 0 0 0 0 0))) (k := k) (by omega)]; rfl
theorem laws_toInsSS_f (xs : List (List VIns)) (hmx : SmInsSS xs) : Fun Tryz.prog 154 [L 1 (xs.map dInsS)] (RL 1 (xs.map dInsS)) := by
 refine Fun.w 23 Tryz.func154 fun w g0 _ => ?_
 have hlen : xs.length ≤ 1048576 := hmx.1
 refine len ?_
 refine mkn ?_
 refine loopW [] [] [] (fun (k : Nat) => [.set 0 (L 1 (xs.map dInsS)), .set 3 (.one (.c (.ref ⟨7, [], 0⟩))), .set 4 (I k)]) (fun (k : Nat) => [(7, ⟨false, [.own (.sl 1 (fill dInsS (dInsS []) xs k))]⟩)]) (fun (k : Nat) => k ≤ xs.length) (fun (k : Nat) => xs.length - k) (0) (by simp) ?_
 refine ⟨(hdw (by repeat' first | exact rfl | refine And.intro ?_ ?_ | exact True.intro | (refine eqS ?_; rw [← fill_zero]))), fun k hyp N1 hN1 => ?_⟩
 have hyp : k ≤ xs.length := hyp
 refine len ?_
 refine spl (fun hb => ?_) (fun hb => ?_)
 ·have hk : k < xs.length := by simpa using hb
  obtain ⟨x, hx⟩ := at_of (xs := xs) (k := k) hk
  have hsx : SmInsS x := hmx.2 x (List.mem_of_getElem? hx)
  have hg := fill_get (f := dInsS) (z := (dInsS [])) hk
  have hs := fill_set (f := dInsS) (z := (dInsS [])) hx
  refine ixm hx ?_
  refine callL (laws_toInsS_f x hsx).k ?_
  refine bnd (?_) (by rw [fill_len]; omega)
  refine ixn hg ?_
  refine rng ?_
  refine hN1 _ _ _ ?_
  refine nxt [] (k + 1) (by omega) (by repeat' first | exact rfl | refine And.intro ?_ ?_ | exact True.intro | (refine eqS ?_; first | (rw [← hs]) | (simp only [← hs])))
 ·refine hN1 _ _ _ ?_
  exact by simp at hb; rw [← fill_all (f := dInsS) (z := (dInsS [])) (k := k) (by omega)]; rfl
theorem laws_toInsSSS_f (xs : List (List (List VIns))) (hmx : SmInsSSS xs) : Fun Tryz.prog 50 [L 1 (xs.map dInsSS)] (RL 1 (xs.map dInsSS)) := by
 refine Fun.w 23 Tryz.func50 fun w g0 _ => ?_
 have hlen : xs.length ≤ 1048576 := hmx.1
 refine len ?_
 refine mkn ?_
 refine loopW [] [] [] (fun (k : Nat) => [.set 0 (L 1 (xs.map dInsSS)), .set 3 (.one (.c (.ref ⟨7, [], 0⟩))), .set 4 (I k)]) (fun (k : Nat) => [(7, ⟨false, [.own (.sl 1 (fill dInsSS (dInsSS []) xs k))]⟩)]) (fun (k : Nat) => k ≤ xs.length) (fun (k : Nat) => xs.length - k) (0) (by simp) ?_
 refine ⟨(hdw (by repeat' first | exact rfl | refine And.intro ?_ ?_ | exact True.intro | (refine eqS ?_; rw [← fill_zero]))), fun k hyp N1 hN1 => ?_⟩
 have hyp : k ≤ xs.length := hyp
 refine len ?_
 refine spl (fun hb => ?_) (fun hb => ?_)
 ·have hk : k < xs.length := by simpa using hb
  obtain ⟨x, hx⟩ := at_of (xs := xs) (k := k) hk
  have hsx : SmInsSS x := hmx.2 x (List.mem_of_getElem? hx)
  have hg := fill_get (f := dInsSS) (z := (dInsSS [])) hk
  have hs := fill_set (f := dInsSS) (z := (dInsSS [])) hx
  refine ixm hx ?_
  refine callL (laws_toInsSS_f x hsx).k ?_
  refine bnd (?_) (by rw [fill_len]; omega)
  refine ixn hg ?_
  refine rng ?_
  refine hN1 _ _ _ ?_
  refine nxt [] (k + 1) (by omega) (by repeat' first | exact rfl | refine And.intro ?_ ?_ | exact True.intro | (refine eqS ?_; first | (rw [← hs]) | (simp only [← hs])))
 ·refine hN1 _ _ _ ?_
  exact by simp at hb; rw [← fill_all (f := dInsSS) (z := (dInsSS [])) (k := k) (by omega)]; rfl
end Go.Proofs.YteelmdpahpggkaaGreat.T

namespace Go.Proofs.YteelmdpahpggkaaGreat.T
open Go
set_option linter.unusedVariables false
set_option linter.unusedSimpArgs false
set_option maxRecDepth 100000
set_option maxHeartbeats 1000000
def mkFold {α : Type} (f : Int → α → α) (c : α → Int) : Int → List α → List α
 | _, [] => []
 | k, x :: l => f k x :: mkFold f c (k + c x) l
def cntFold {α : Type} (c : α → Int) : List α → Int
 | [] => 0
 | x :: l => c x + cntFold c l
theorem mkFold_len {α : Type} (f : Int → α → α) (c : α → Int) : ∀ (xs : List α) (k : Int), (mkFold f c k xs).length = xs.length
 | [], _ => rfl
 | x :: l, k => by simp [mkFold, mkFold_len f c l]
theorem cntFold_nn {α : Type} {c : α → Int} (h : ∀ x, 0 ≤ c x) : ∀ xs : List α, 0 ≤ cntFold c xs
 | [] => Int.le_refl _
 | x :: l => by have := h x; have := cntFold_nn h l; simp only [cntFold]; omega
theorem cntFold_app {α : Type} (c : α → Int) : ∀ xs ys : List α, cntFold c (xs ++ ys) = cntFold c xs + cntFold c ys
 | [], ys => by simp [cntFold]
 | x :: l, ys => by simp only [List.cons_append, cntFold, cntFold_app c l ys]; omega
theorem cntFold_step {α : Type} {c : α → Int} {xs : List α} {i : Nat} {x : α} (hx : xs[i]? = some x) : cntFold c (xs.take (i + 1)) = cntFold c (xs.take i) + c x := by
 rw [List.take_add_one, hx, cntFold_app]
 simp [cntFold]
theorem cntFold_le {α : Type} {c : α → Int} (h : ∀ x, 0 ≤ c x) (xs : List α) (i : Nat) : cntFold c (xs.take i) ≤ cntFold c xs := by
 have := cntFold_app c (xs.take i) (xs.drop i)
 rw [List.take_append_drop] at this
 have := cntFold_nn h (xs.drop i)
 omega
theorem mkFold_get {α : Type} (f : Int → α → α) (c : α → Int) : ∀ {xs : List α} {i : Nat} {x : α} (k : Int), xs[i]? = some x → (mkFold f c k xs)[i]? = some (f (k + cntFold c (xs.take i)) x)
 | [], i, x, k, h => by simp at h
 | y :: l, 0, x, k, h => by
  simp only [List.getElem?_cons_zero, Option.some.injEq] at h
  subst h
  simp [mkFold, cntFold]
 | y :: l, i + 1, x, k, h => by
  have := mkFold_get f c (k + c y) (xs := l) (i := i) (by simpa using h)
  simp only [mkFold, List.getElem?_cons_succ, List.take_succ_cons, cntFold, this]
  congr 2
  omega
def mkEInt (k : Int) (_ : Int) : Int := k
def cntEInt (_ : Int) : Int := 1
theorem cntEInt_nn (x : Int) : 0 ≤ cntEInt x := by simp [cntEInt]
def mkIntS (k : Int) (xs : List Int) : List Int := mkFold mkEInt cntEInt k xs
def cntIntS (xs : List Int) : Int := cntFold cntEInt xs
theorem cntIntS_nn (xs : List Int) : 0 ≤ cntIntS xs := cntFold_nn cntEInt_nn xs
theorem mkIntS_len (k : Int) (xs : List Int) : (mkIntS k xs).length = xs.length := mkFold_len _ _ _ _
abbrev mkEIntS := mkIntS
abbrev cntEIntS := cntIntS
theorem cntEIntS_nn (xs : List Int) : 0 ≤ cntEIntS xs := cntIntS_nn xs
def mkIntSS (k : Int) (xs : List (List Int)) : List (List Int) := mkFold mkEIntS cntEIntS k xs
def cntIntSS (xs : List (List Int)) : Int := cntFold cntEIntS xs
theorem cntIntSS_nn (xs : List (List Int)) : 0 ≤ cntIntSS xs := cntFold_nn cntEIntS_nn xs
theorem mkIntSS_len (k : Int) (xs : List (List Int)) : (mkIntSS k xs).length = xs.length := mkFold_len _ _ _ _
def mkESlot (k : Int) (x : VSlot) : VSlot := ⟨(k), (k + 1)⟩
def cntESlot (_ : VSlot) : Int := 1 + 1
theorem cntESlot_nn (x : VSlot) : 0 ≤ cntESlot x := by
 unfold cntESlot
 omega
def mkSlotS (k : Int) (xs : List VSlot) : List VSlot := mkFold mkESlot cntESlot k xs
def cntSlotS (xs : List VSlot) : Int := cntFold cntESlot xs
theorem cntSlotS_nn (xs : List VSlot) : 0 ≤ cntSlotS xs := cntFold_nn cntESlot_nn xs
theorem mkSlotS_len (k : Int) (xs : List VSlot) : (mkSlotS k xs).length = xs.length := mkFold_len _ _ _ _
def mkEIns (k : Int) (x : VIns) : VIns := ⟨(k), (k + 1)⟩
def cntEIns (_ : VIns) : Int := 1 + 1
theorem cntEIns_nn (x : VIns) : 0 ≤ cntEIns x := by
 unfold cntEIns
 omega
def mkInsS (k : Int) (xs : List VIns) : List VIns := mkFold mkEIns cntEIns k xs
def cntInsS (xs : List VIns) : Int := cntFold cntEIns xs
theorem cntInsS_nn (xs : List VIns) : 0 ≤ cntInsS xs := cntFold_nn cntEIns_nn xs
theorem mkInsS_len (k : Int) (xs : List VIns) : (mkInsS k xs).length = xs.length := mkFold_len _ _ _ _
abbrev mkEInsS := mkInsS
abbrev cntEInsS := cntInsS
theorem cntEInsS_nn (xs : List VIns) : 0 ≤ cntEInsS xs := cntInsS_nn xs
def mkEGuest (k : Int) (x : VGuest) : VGuest := ⟨(mkInsS (k) x.Prog), (k + cntInsS x.Prog), (k + cntInsS x.Prog + 1), (mkSlotS (k + cntInsS x.Prog + 1 + 1) x.Written), (mkSlotS (k + cntInsS x.Prog + 1 + 1 + cntSlotS x.Written) x.Live), ⟨(k + cntInsS x.Prog + 1 + 1 + cntSlotS x.Written + cntSlotS x.Live), (k + cntInsS x.Prog + 1 + 1 + cntSlotS x.Written + cntSlotS x.Live + 1), ((k + cntInsS x.Prog + 1 + 1 + cntSlotS x.Written + cntSlotS x.Live + 1 + 1).tmod 3 == 0)⟩, (k + cntInsS x.Prog + 1 + 1 + cntSlotS x.Written + cntSlotS x.Live + 1 + 1 + 1), ⟨(k + cntInsS x.Prog + 1 + 1 + cntSlotS x.Written + cntSlotS x.Live + 1 + 1 + 1 + 1), (k + cntInsS x.Prog + 1 + 1 + cntSlotS x.Written + cntSlotS x.Live + 1 + 1 + 1 + 1 + 1), ((k + cntInsS x.Prog + 1 + 1 + cntSlotS x.Written + cntSlotS x.Live + 1 + 1 + 1 + 1 + 1 + 1).tmod 3 == 0), (k + cntInsS x.Prog + 1 + 1 + cntSlotS x.Written + cntSlotS x.Live + 1 + 1 + 1 + 1 + 1 + 1 + 1)⟩, ((k + cntInsS x.Prog + 1 + 1 + cntSlotS x.Written + cntSlotS x.Live + 1 + 1 + 1 + 1 + 1 + 1 + 1 + 1).tmod 3 == 0), (mkIntS (k + cntInsS x.Prog + 1 + 1 + cntSlotS x.Written + cntSlotS x.Live + 1 + 1 + 1 + 1 + 1 + 1 + 1 + 1 + 1) x.Seen)⟩
def cntEGuest (x : VGuest) : Int := cntInsS x.Prog + 1 + 1 + cntSlotS x.Written + cntSlotS x.Live + 1 + 1 + 1 + 1 + 1 + 1 + 1 + 1 + 1 + cntIntS x.Seen
theorem cntEGuest_nn (x : VGuest) : 0 ≤ cntEGuest x := by
 have := cntInsS_nn x.Prog
 have := cntSlotS_nn x.Written
 have := cntSlotS_nn x.Live
 have := cntIntS_nn x.Seen
 unfold cntEGuest
 omega
def mkGuestS (k : Int) (xs : List VGuest) : List VGuest := mkFold mkEGuest cntEGuest k xs
def cntGuestS (xs : List VGuest) : Int := cntFold cntEGuest xs
theorem cntGuestS_nn (xs : List VGuest) : 0 ≤ cntGuestS xs := cntFold_nn cntEGuest_nn xs
theorem mkGuestS_len (k : Int) (xs : List VGuest) : (mkGuestS k xs).length = xs.length := mkFold_len _ _ _ _
def mkEBare (k : Int) (x : VBare) : VBare := ⟨(mkIntSS (k) x.Memory), (mkGuestS (k + cntIntSS x.Memory) x.Guests), (mkIntS (k + cntIntSS x.Memory + cntGuestS x.Guests) x.Outs), (k + cntIntSS x.Memory + cntGuestS x.Guests + cntIntS x.Outs)⟩
def cntEBare (x : VBare) : Int := cntIntSS x.Memory + cntGuestS x.Guests + cntIntS x.Outs + 1
theorem cntEBare_nn (x : VBare) : 0 ≤ cntEBare x := by
 have := cntIntSS_nn x.Memory
 have := cntGuestS_nn x.Guests
 have := cntIntS_nn x.Outs
 unfold cntEBare
 omega
def mkBareS (k : Int) (xs : List VBare) : List VBare := mkFold mkEBare cntEBare k xs
def cntBareS (xs : List VBare) : Int := cntFold cntEBare xs
theorem cntBareS_nn (xs : List VBare) : 0 ≤ cntBareS xs := cntFold_nn cntEBare_nn xs
theorem mkBareS_len (k : Int) (xs : List VBare) : (mkBareS k xs).length = xs.length := mkFold_len _ _ _ _
def mkETold (k : Int) (x : VTold) : VTold := ⟨((k).tmod 3 == 0), (k + 1)⟩
def cntETold (_ : VTold) : Int := 1 + 1
theorem cntETold_nn (x : VTold) : 0 ≤ cntETold x := by
 unfold cntETold
 omega
def mkToldS (k : Int) (xs : List VTold) : List VTold := mkFold mkETold cntETold k xs
def cntToldS (xs : List VTold) : Int := cntFold cntETold xs
theorem cntToldS_nn (xs : List VTold) : 0 ≤ cntToldS xs := cntFold_nn cntETold_nn xs
theorem mkToldS_len (k : Int) (xs : List VTold) : (mkToldS k xs).length = xs.length := mkFold_len _ _ _ _
def mkEAct (k : Int) (x : VAct) : VAct := ⟨(k), (k + 1), (k + 1 + 1), (k + 1 + 1 + 1), (k + 1 + 1 + 1 + 1), (k + 1 + 1 + 1 + 1 + 1)⟩
def cntEAct (_ : VAct) : Int := 1 + 1 + 1 + 1 + 1 + 1
theorem cntEAct_nn (x : VAct) : 0 ≤ cntEAct x := by
 unfold cntEAct
 omega
def mkActS (k : Int) (xs : List VAct) : List VAct := mkFold mkEAct cntEAct k xs
def cntActS (xs : List VAct) : Int := cntFold cntEAct xs
theorem cntActS_nn (xs : List VAct) : 0 ≤ cntActS xs := cntFold_nn cntEAct_nn xs
theorem mkActS_len (k : Int) (xs : List VAct) : (mkActS k xs).length = xs.length := mkFold_len _ _ _ _
def mkInsSS (k : Int) (xs : List (List VIns)) : List (List VIns) := mkFold mkEInsS cntEInsS k xs
def cntInsSS (xs : List (List VIns)) : Int := cntFold cntEInsS xs
theorem cntInsSS_nn (xs : List (List VIns)) : 0 ≤ cntInsSS xs := cntFold_nn cntEInsS_nn xs
theorem mkInsSS_len (k : Int) (xs : List (List VIns)) : (mkInsSS k xs).length = xs.length := mkFold_len _ _ _ _
abbrev mkEInsSS := mkInsSS
abbrev cntEInsSS := cntInsSS
theorem cntEInsSS_nn (xs : List (List VIns)) : 0 ≤ cntEInsSS xs := cntInsSS_nn xs
def mkInsSSS (k : Int) (xs : List (List (List VIns))) : List (List (List VIns)) := mkFold mkEInsSS cntEInsSS k xs
def cntInsSSS (xs : List (List (List VIns))) : Int := cntFold cntEInsSS xs
theorem cntInsSSS_nn (xs : List (List (List VIns))) : 0 ≤ cntInsSSS xs := cntFold_nn cntEInsSS_nn xs
theorem mkInsSSS_len (k : Int) (xs : List (List (List VIns))) : (mkInsSSS k xs).length = xs.length := mkFold_len _ _ _ _
theorem szFold_cnt {α : Type} {f : α → Int → Int} {c : α → Int} (h : ∀ x n, 0 ≤ f x n → c x ≤ 32 * (n - f x n) + 32) : ∀ (xs : List α) (n : Int), 0 ≤ szFold f xs n → cntFold c xs ≤ 32 * (n - szFold f xs n) + 32 * xs.length
 | [], n, _ => by simp [szFold, cntFold]
 | x :: l, n, hn => by
  unfold szFold at hn ⊢
  split at hn
  ·omega
  ·rename_i h0
   rw [if_neg h0]
   have h1 := h x n (by omega)
   have h2 := szFold_cnt h l _ hn
   simp only [cntFold, List.length_cons]
   omega
theorem cntFold_flat {α : Type} {c : α → Int} (h : ∀ x, c x ≤ 32) : ∀ (xs : List α), cntFold c xs ≤ 32 * xs.length
 | [] => by simp [cntFold]
 | x :: l => by
  have h1 := h x
  have h2 := cntFold_flat h l
  simp only [cntFold, List.length_cons]
  omega
theorem szInsS_cnt (xs : List VIns) (n : Int) (h : 0 ≤ szInsS xs n) : cntInsS xs ≤ 32 * (n - szInsS xs n) := by
 unfold szInsS at h ⊢
 split at h
 ·omega
 ·rename_i h0
  rw [if_neg h0]
  have := cntFold_flat (c := cntEIns) (fun x => by simp [cntEIns]) xs
  unfold cntInsS
  omega
theorem szInsS_cntE (xs : List VIns) (n : Int) (h : 0 ≤ szInsS xs n) : cntEInsS xs ≤ 32 * (n - szInsS xs n) + 32 := by
 have := szInsS_cnt xs n h
 show cntInsS xs ≤ _
 omega
theorem szActS_cnt (xs : List VAct) (n : Int) (h : 0 ≤ szActS xs n) : cntActS xs ≤ 32 * (n - szActS xs n) := by
 unfold szActS at h ⊢
 split at h
 ·omega
 ·rename_i h0
  rw [if_neg h0]
  have := cntFold_flat (c := cntEAct) (fun x => by simp [cntEAct]) xs
  unfold cntActS
  omega
theorem szInsSS_cnt (xs : List (List VIns)) (n : Int) (h : 0 ≤ szInsSS xs n) : cntInsSS xs ≤ 32 * (n - szInsSS xs n) := by
 unfold szInsSS at h ⊢
 split at h
 ·omega
 ·rename_i h0
  rw [if_neg h0]
  have := szFold_cnt (c := cntEInsS) (fun x n hx => szInsS_cntE x n hx) xs _ h
  unfold cntInsSS
  omega
theorem szInsSS_cntE (xs : List (List VIns)) (n : Int) (h : 0 ≤ szInsSS xs n) : cntEInsSS xs ≤ 32 * (n - szInsSS xs n) + 32 := by
 have := szInsSS_cnt xs n h
 show cntInsSS xs ≤ _
 omega
theorem szInsSSS_cnt (xs : List (List (List VIns))) (n : Int) (h : 0 ≤ szInsSSS xs n) : cntInsSSS xs ≤ 32 * (n - szInsSSS xs n) := by
 unfold szInsSSS at h ⊢
 split at h
 ·omega
 ·rename_i h0
  rw [if_neg h0]
  have := szFold_cnt (c := cntEInsSS) (fun x n hx => szInsSS_cntE x n hx) xs _ h
  unfold cntInsSSS
  omega
end Go.Proofs.YteelmdpahpggkaaGreat.T

