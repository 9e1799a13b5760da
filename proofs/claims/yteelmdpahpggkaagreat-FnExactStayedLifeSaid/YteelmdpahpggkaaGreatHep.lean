
import Derived.Test.YteelmdpahpggkaaGreatHdp
namespace Go.Proofs.YteelmdpahpggkaaGreat.T
open Go
set_option linter.unusedVariables false
set_option linter.unusedSimpArgs false
set_option maxRecDepth 100000
set_option maxHeartbeats 8000000
theorem laws_markIntS_f (xs : List Int) (k : Int) (h1 : 0 ≤ k) (h2 : k + cntIntS xs ≤ 1000000000000000) (hmx : SmIntS xs) : Fun2 Tryz.prog 46 (⟨false, [.sl 1 (xs.map dInt)]⟩) [.one (.c (.ref ⟨1000000, [], 0⟩)), I k] (RP2 [.sl 1 ((mkIntS k xs).map dInt)] (I (k + cntIntS xs))) := by
 refine Fun2.w 19 Tryz.func46 fun w g0 _ => ?_
 refine loopW [] [] [] (fun (i : Nat) => [.set 0 (.one (.c (.ref ⟨1000000, [], 0⟩))), .set 1 (I (k + cntFold cntEInt (xs.take i))), .set 5 (I i)]) (fun (i : Nat) => [(1000000, ⟨false, [.own (.sl 1 ((mix (mkIntS k xs) xs i).map dInt))]⟩)]) (fun (i : Nat) => i ≤ xs.length) (fun (i : Nat) => xs.length - i) (0) (by simp) ?_
 refine ⟨(hdw (by repeat' first | exact rfl | refine And.intro ?_ ?_ | exact True.intro | (refine eqS ?_; simp [cntFold, mix_zero]))), fun i hyp N1 hN1 => ?_⟩
 have hyp : i ≤ xs.length := hyp
 refine len ?_
 refine spl (fun hb => ?_) (fun hb => ?_)
 ·have hi : i < xs.length := by simpa [mix_len (mkIntS_len k xs)] using hb
  have hlen : xs.length ≤ 2097152 := Nat.le_trans (show xs.length ≤ 1048576 from hmx) (by decide)
  obtain ⟨x, hx⟩ := at_of (xs := xs) (k := i) hi
  have hcs := cntFold_step (c := cntEInt) hx
  have hc1 := cntFold_le cntEInt_nn xs (i + 1)
  have hc0 := cntFold_nn cntEInt_nn (xs.take i)
  have hcd : cntFold cntEInt xs = cntIntS xs := rfl
  have hg : ((mix (mkIntS k xs) xs i).map dInt)[i]? = some (dInt x) := by simp [List.getElem?_map, mix_get (mkIntS_len k xs), hx]
  have hs : ((mix (mkIntS k xs) xs i).map dInt).set i (dInt (mkEInt (k + cntFold cntEInt (xs.take i)) x)) = ((mix (mkIntS k xs) xs (i + 1)).map dInt) := by rw [← mix_set (mkIntS_len k xs) (mkFold_get mkEInt cntEInt k hx), List.map_set]
  have hLl : ((mix (mkIntS k xs) xs i).map dInt).length = xs.length := by simp [mix_len (mkIntS_len k xs)]
  generalize ((mix (mkIntS k xs) xs i).map dInt) = L at *
  simp only [dInt, mkEInt, cntEInt] at hg hs hcs
  generalize hKI : cntFold cntEInt (xs.take i) = m at *
  refine bnd ?_ (by simp only [List.length_set, hLl]; omega)
  refine ixn hg ?_
  refine rng ?_
  refine rng ?_
  refine hN1 _ _ _ ?_
  refine nxt [] (i + 1) (by omega) (by repeat' first | exact rfl | refine And.intro ?_ ?_ | exact True.intro | (refine eqS ?_; first | exact congrArg (fun z : Int => (I z : TS)) (by rw [hcs]; omega) | exact congrArg (fun z : Int => (I z : TS)) (by omega) | (simp only [List.set_set]; rw [← hs]) | (simp only [List.set_set, ← hs])))
 ·refine hN1 _ _ _ ?_
  have hn : i = xs.length := (by simp [mix_len (mkIntS_len k xs)] at hb; omega)
  subst hn
  rw [mix_all (mkIntS_len k xs) (Nat.le_refl _), List.take_length]
  exact ⟨rfl, rfl⟩
theorem laws_markIntSS_f (xs : List (List Int)) (k : Int) (h1 : 0 ≤ k) (h2 : k + cntIntSS xs ≤ 1000000000000000) (hmx : SmIntSS xs) : Fun2 Tryz.prog 88 (⟨false, [.sl 1 (xs.map dIntS)]⟩) [.one (.c (.ref ⟨1000000, [], 0⟩)), I k] (RP2 [.sl 1 ((mkIntSS k xs).map dIntS)] (I (k + cntIntSS xs))) := by
 refine Fun2.w 19 Tryz.func88 fun w g0 _ => ?_
 refine loopW [] [] [] (fun (i : Nat) => [.set 0 (.one (.c (.ref ⟨1000000, [], 0⟩))), .set 1 (I (k + cntFold cntIntS (xs.take i))), .set 5 (I i)]) (fun (i : Nat) => [(1000000, ⟨false, [.own (.sl 1 ((mix (mkIntSS k xs) xs i).map dIntS))]⟩)]) (fun (i : Nat) => i ≤ xs.length) (fun (i : Nat) => xs.length - i) (0) (by simp) ?_
 refine ⟨(hdw (by repeat' first | exact rfl | refine And.intro ?_ ?_ | exact True.intro | (refine eqS ?_; simp [cntFold, mix_zero]))), fun i hyp N1 hN1 => ?_⟩
 have hyp : i ≤ xs.length := hyp
 refine len ?_
 refine spl (fun hb => ?_) (fun hb => ?_)
 ·have hi : i < xs.length := by simpa [mix_len (mkIntSS_len k xs)] using hb
  have hlen : xs.length ≤ 2097152 := Nat.le_trans (show xs.length ≤ 1048576 from hmx.1) (by decide)
  obtain ⟨x, hx⟩ := at_of (xs := xs) (k := i) hi
  have hcs := cntFold_step (c := cntIntS) hx
  have hc1 := cntFold_le cntIntS_nn xs (i + 1)
  have hc0 := cntFold_nn cntIntS_nn (xs.take i)
  have hcd : cntFold cntIntS xs = cntIntSS xs := rfl
  have hsx : SmIntS x := hmx.2 x (List.mem_of_getElem? hx)
  have hn0 := cntIntS_nn x
  have hg : ((mix (mkIntSS k xs) xs i).map dIntS)[i]? = some (dIntS x) := by simp [List.getElem?_map, mix_get (mkIntSS_len k xs), hx]
  have hs : ((mix (mkIntSS k xs) xs i).map dIntS).set i (dIntS (mkIntS (k + cntFold cntIntS (xs.take i)) x)) = ((mix (mkIntSS k xs) xs (i + 1)).map dIntS) := by rw [← mix_set (mkIntSS_len k xs) (mkFold_get mkIntS cntIntS k hx), List.map_set]
  have hLl : ((mix (mkIntSS k xs) xs i).map dIntS).length = xs.length := by simp [mix_len (mkIntSS_len k xs)]
  generalize ((mix (mkIntSS k xs) xs i).map dIntS) = L at *
  simp only [dIntS] at hg hs
  generalize hKI : cntFold cntIntS (xs.take i) = m at *
  refine bnd ?_ (by simp only [List.length_set, hLl]; omega)
  refine ixn hg ?_
  refine callN 1000000 0 i 0 (laws_markIntS_f x ((k + m)) (by omega) (by omega) hsx) ?_
  refine ixn hg ?_
  refine And.intro rfl ?_
  refine rng ?_
  refine hN1 _ _ _ ?_
  refine nxt [] (i + 1) (by omega) (by repeat' first | exact rfl | refine And.intro ?_ ?_ | exact True.intro | (refine eqS ?_; first | exact congrArg (fun z : Int => (I z : TS)) (by rw [hcs]; omega) | exact congrArg (fun z : Int => (I z : TS)) (by omega) | (simp only [List.set_set]; rw [← hs]) | (simp only [List.set_set, ← hs])))
 ·refine hN1 _ _ _ ?_
  have hn : i = xs.length := (by simp [mix_len (mkIntSS_len k xs)] at hb; omega)
  subst hn
  rw [mix_all (mkIntSS_len k xs) (Nat.le_refl _), List.take_length]
  exact ⟨rfl, rfl⟩
theorem laws_markSlotS_f (xs : List VSlot) (k : Int) (h1 : 0 ≤ k) (h2 : k + cntSlotS xs ≤ 1000000000000000) (hmx : SmSlotS xs) : Fun2 Tryz.prog 122 (⟨false, [.sl 2 (xs.map dSlot)]⟩) [.one (.c (.ref ⟨1000000, [], 0⟩)), I k] (RP2 [.sl 2 ((mkSlotS k xs).map dSlot)] (I (k + cntSlotS xs))) := by
 refine Fun2.w 27 Tryz.func122 fun w g0 _ => ?_
 refine loopW [] [] [] (fun (i : Nat) => [.set 0 (.one (.c (.ref ⟨1000000, [], 0⟩))), .set 1 (I (k + cntFold cntESlot (xs.take i))), .set 5 (I i)]) (fun (i : Nat) => [(1000000, ⟨false, [.own (.sl 2 ((mix (mkSlotS k xs) xs i).map dSlot))]⟩)]) (fun (i : Nat) => i ≤ xs.length) (fun (i : Nat) => xs.length - i) (0) (by simp) ?_
 refine ⟨(hdw (by repeat' first | exact rfl | refine And.intro ?_ ?_ | exact True.intro | (refine eqS ?_; simp [cntFold, mix_zero]))), fun i hyp N1 hN1 => ?_⟩
 have hyp : i ≤ xs.length := hyp
 refine len ?_
 refine spl (fun hb => ?_) (fun hb => ?_)
 ·have hi : i < xs.length := by simpa [mix_len (mkSlotS_len k xs)] using hb
  have hlen : xs.length ≤ 2097152 := Nat.le_trans (show xs.length ≤ 1048576 from hmx) (by decide)
  obtain ⟨x, hx⟩ := at_of (xs := xs) (k := i) hi
  have hcs := cntFold_step (c := cntESlot) hx
  have hc1 := cntFold_le cntESlot_nn xs (i + 1)
  have hc0 := cntFold_nn cntESlot_nn (xs.take i)
  have hcd : cntFold cntESlot xs = cntSlotS xs := rfl
  have hg : ((mix (mkSlotS k xs) xs i).map dSlot)[i]? = some (dSlot x) := by simp [List.getElem?_map, mix_get (mkSlotS_len k xs), hx]
  have hs : ((mix (mkSlotS k xs) xs i).map dSlot).set i (dSlot (mkESlot (k + cntFold cntESlot (xs.take i)) x)) = ((mix (mkSlotS k xs) xs (i + 1)).map dSlot) := by rw [← mix_set (mkSlotS_len k xs) (mkFold_get mkESlot cntESlot k hx), List.map_set]
  have hLl : ((mix (mkSlotS k xs) xs i).map dSlot).length = xs.length := by simp [mix_len (mkSlotS_len k xs)]
  generalize ((mix (mkSlotS k xs) xs i).map dSlot) = L at *
  simp only [dSlot, rSlot, mkESlot, cntESlot] at hg hs hcs
  generalize hKI : cntFold cntESlot (xs.take i) = m at *
  refine bnd ?_ (by simp only [List.length_set, hLl]; omega)
  refine ixn hg ?_
  refine rng ?_
  refine bnd ?_ (by simp only [List.length_set, hLl]; omega)
  refine ixs ?_
  refine rng ?_
  refine rng ?_
  refine hN1 _ _ _ ?_
  refine nxt [] (i + 1) (by omega) (by repeat' first | exact rfl | refine And.intro ?_ ?_ | exact True.intro | (refine eqS ?_; first | exact congrArg (fun z : Int => (I z : TS)) (by rw [hcs]; omega) | exact congrArg (fun z : Int => (I z : TS)) (by omega) | (simp only [List.set_set]; rw [← hs]) | (simp only [List.set_set, ← hs])))
 ·refine hN1 _ _ _ ?_
  have hn : i = xs.length := (by simp [mix_len (mkSlotS_len k xs)] at hb; omega)
  subst hn
  rw [mix_all (mkSlotS_len k xs) (Nat.le_refl _), List.take_length]
  exact ⟨rfl, rfl⟩
theorem laws_markInsS_f (xs : List VIns) (k : Int) (h1 : 0 ≤ k) (h2 : k + cntInsS xs ≤ 1000000000000000) (hmx : SmInsS xs) : Fun2 Tryz.prog 217 (⟨false, [.sl 2 (xs.map dIns)]⟩) [.one (.c (.ref ⟨1000000, [], 0⟩)), I k] (RP2 [.sl 2 ((mkInsS k xs).map dIns)] (I (k + cntInsS xs))) := by
 refine Fun2.w 27 Tryz.func217 fun w g0 _ => ?_
 refine loopW [] [] [] (fun (i : Nat) => [.set 0 (.one (.c (.ref ⟨1000000, [], 0⟩))), .set 1 (I (k + cntFold cntEIns (xs.take i))), .set 5 (I i)]) (fun (i : Nat) => [(1000000, ⟨false, [.own (.sl 2 ((mix (mkInsS k xs) xs i).map dIns))]⟩)]) (fun (i : Nat) => i ≤ xs.length) (fun (i : Nat) => xs.length - i) (0) (by simp) ?_
 refine ⟨(hdw (by repeat' first | exact rfl | refine And.intro ?_ ?_ | exact True.intro | (refine eqS ?_; simp [cntFold, mix_zero]))), fun i hyp N1 hN1 => ?_⟩
 have hyp : i ≤ xs.length := hyp
 refine len ?_
 refine spl (fun hb => ?_) (fun hb => ?_)
 ·have hi : i < xs.length := by simpa [mix_len (mkInsS_len k xs)] using hb
  have hlen : xs.length ≤ 2097152 := Nat.le_trans (show xs.length ≤ 1048576 from hmx) (by decide)
  obtain ⟨x, hx⟩ := at_of (xs := xs) (k := i) hi
  have hcs := cntFold_step (c := cntEIns) hx
  have hc1 := cntFold_le cntEIns_nn xs (i + 1)
  have hc0 := cntFold_nn cntEIns_nn (xs.take i)
  have hcd : cntFold cntEIns xs = cntInsS xs := rfl
  have hg : ((mix (mkInsS k xs) xs i).map dIns)[i]? = some (dIns x) := by simp [List.getElem?_map, mix_get (mkInsS_len k xs), hx]
  have hs : ((mix (mkInsS k xs) xs i).map dIns).set i (dIns (mkEIns (k + cntFold cntEIns (xs.take i)) x)) = ((mix (mkInsS k xs) xs (i + 1)).map dIns) := by rw [← mix_set (mkInsS_len k xs) (mkFold_get mkEIns cntEIns k hx), List.map_set]
  have hLl : ((mix (mkInsS k xs) xs i).map dIns).length = xs.length := by simp [mix_len (mkInsS_len k xs)]
  generalize ((mix (mkInsS k xs) xs i).map dIns) = L at *
  simp only [dIns, rIns, mkEIns, cntEIns] at hg hs hcs
  generalize hKI : cntFold cntEIns (xs.take i) = m at *
  refine bnd ?_ (by simp only [List.length_set, hLl]; omega)
  refine ixn hg ?_
  refine rng ?_
  refine bnd ?_ (by simp only [List.length_set, hLl]; omega)
  refine ixs ?_
  refine rng ?_
  refine rng ?_
  refine hN1 _ _ _ ?_
  refine nxt [] (i + 1) (by omega) (by repeat' first | exact rfl | refine And.intro ?_ ?_ | exact True.intro | (refine eqS ?_; first | exact congrArg (fun z : Int => (I z : TS)) (by rw [hcs]; omega) | exact congrArg (fun z : Int => (I z : TS)) (by omega) | (simp only [List.set_set]; rw [← hs]) | (simp only [List.set_set, ← hs])))
 ·refine hN1 _ _ _ ?_
  have hn : i = xs.length := (by simp [mix_len (mkInsS_len k xs)] at hb; omega)
  subst hn
  rw [mix_all (mkInsS_len k xs) (Nat.le_refl _), List.take_length]
  exact ⟨rfl, rfl⟩
theorem laws_markGuestS_f (xs : List VGuest) (k : Int) (h1 : 0 ≤ k) (h2 : k + cntGuestS xs ≤ 1000000000000000) (hmx : SmGuestS xs) : Fun2 Tryz.prog 124 (⟨false, [.sl 15 (xs.map dGuest)]⟩) [.one (.c (.ref ⟨1000000, [], 0⟩)), I k] (RP2 [.sl 15 ((mkGuestS k xs).map dGuest)] (I (k + cntGuestS xs))) := by
 refine Fun2.w 131 Tryz.func124 fun w g0 _ => ?_
 refine loopW [] [] [] (fun (i : Nat) => [.set 0 (.one (.c (.ref ⟨1000000, [], 0⟩))), .set 1 (I (k + cntFold cntEGuest (xs.take i))), .set 5 (I i)]) (fun (i : Nat) => [(1000000, ⟨false, [.own (.sl 15 ((mix (mkGuestS k xs) xs i).map dGuest))]⟩)]) (fun (i : Nat) => i ≤ xs.length) (fun (i : Nat) => xs.length - i) (0) (by simp) ?_
 refine ⟨(hdw (by repeat' first | exact rfl | refine And.intro ?_ ?_ | exact True.intro | (refine eqS ?_; simp [cntFold, mix_zero]))), fun i hyp N1 hN1 => ?_⟩
 have hyp : i ≤ xs.length := hyp
 refine len ?_
 refine spl (fun hb => ?_) (fun hb => ?_)
 ·have hi : i < xs.length := by simpa [mix_len (mkGuestS_len k xs)] using hb
  have hlen : xs.length ≤ 2097152 := Nat.le_trans (show xs.length ≤ 1048576 from hmx.1) (by decide)
  obtain ⟨x, hx⟩ := at_of (xs := xs) (k := i) hi
  have hcs := cntFold_step (c := cntEGuest) hx
  have hc1 := cntFold_le cntEGuest_nn xs (i + 1)
  have hc0 := cntFold_nn cntEGuest_nn (xs.take i)
  have hcd : cntFold cntEGuest xs = cntGuestS xs := rfl
  have hsx : SmGuest x := hmx.2 x (List.mem_of_getElem? hx)
  have hn0 := cntInsS_nn x.Prog
  have hn1 := cntSlotS_nn x.Written
  have hn2 := cntSlotS_nn x.Live
  have hn3 := cntIntS_nn x.Seen
  have hg : ((mix (mkGuestS k xs) xs i).map dGuest)[i]? = some (dGuest x) := by simp [List.getElem?_map, mix_get (mkGuestS_len k xs), hx]
  have hs : ((mix (mkGuestS k xs) xs i).map dGuest).set i (dGuest (mkEGuest (k + cntFold cntEGuest (xs.take i)) x)) = ((mix (mkGuestS k xs) xs (i + 1)).map dGuest) := by rw [← mix_set (mkGuestS_len k xs) (mkFold_get mkEGuest cntEGuest k hx), List.map_set]
  have hLl : ((mix (mkGuestS k xs) xs i).map dGuest).length = xs.length := by simp [mix_len (mkGuestS_len k xs)]
  generalize ((mix (mkGuestS k xs) xs i).map dGuest) = L at *
  simp only [dGuest, rGuest, mkEGuest, cntEGuest] at hg hs hcs
  generalize hKI : cntFold cntEGuest (xs.take i) = m at *
  refine bnd ?_ (by simp only [List.length_set, hLl]; omega)
  refine ixn hg ?_
  refine callN 1000000 0 i 0 (laws_markInsS_f x.Prog ((k + m)) (by omega) (by omega) (hsx.1)) ?_
  refine ixn hg ?_
  refine And.intro rfl ?_
  refine bnd ?_ (by simp only [List.length_set, hLl]; omega)
  refine ixs ?_
  refine rng ?_
  refine bnd ?_ (by simp only [List.length_set, hLl]; omega)
  refine ixs ?_
  refine rng ?_
  refine bnd ?_ (by simp only [List.length_set, hLl]; omega)
  refine ixs ?_
  refine callN 1000000 0 i 3 (laws_markSlotS_f x.Written ((k + m) + cntInsS x.Prog + 1 + 1) (by omega) (by omega) (hsx.2.1)) ?_
  refine ixs ?_
  refine And.intro rfl ?_
  refine bnd ?_ (by simp only [List.length_set, hLl]; omega)
  refine ixs ?_
  refine callN 1000000 0 i 4 (laws_markSlotS_f x.Live ((k + m) + cntInsS x.Prog + 1 + 1 + cntSlotS x.Written) (by omega) (by omega) (hsx.2.2.1)) ?_
  refine ixs ?_
  refine And.intro rfl ?_
  refine bnd ?_ (by simp only [List.length_set, hLl]; omega)
  refine ixs ?_
  refine rng ?_
  refine bnd ?_ (by simp only [List.length_set, hLl]; omega)
  refine ixs ?_
  refine rng ?_
  refine nz ?_
  refine bnd ?_ (by simp only [List.length_set, hLl]; omega)
  refine ixs ?_
  refine rng ?_
  refine bnd ?_ (by simp only [List.length_set, hLl]; omega)
  refine ixs ?_
  refine rng ?_
  refine bnd ?_ (by simp only [List.length_set, hLl]; omega)
  refine ixs ?_
  refine rng ?_
  refine bnd ?_ (by simp only [List.length_set, hLl]; omega)
  refine ixs ?_
  refine rng ?_
  refine nz ?_
  refine bnd ?_ (by simp only [List.length_set, hLl]; omega)
  refine ixs ?_
  refine rng ?_
  refine bnd ?_ (by simp only [List.length_set, hLl]; omega)
  refine ixs ?_
  refine rng ?_
  refine nz ?_
  refine bnd ?_ (by simp only [List.length_set, hLl]; omega)
  refine ixs ?_
  refine rng ?_
  refine bnd ?_ (by simp only [List.length_set, hLl]; omega)
  refine ixs ?_
  refine callN 1000000 0 i 14 (laws_markIntS_f x.Seen ((k + m) + cntInsS x.Prog + 1 + 1 + cntSlotS x.Written + cntSlotS x.Live + 1 + 1 + 1 + 1 + 1 + 1 + 1 + 1 + 1) (by omega) (by omega) (hsx.2.2.2)) ?_
  refine ixs ?_
  refine And.intro rfl ?_
  refine rng ?_
  refine hN1 _ _ _ ?_
  refine nxt [] (i + 1) (by omega) (by repeat' first | exact rfl | refine And.intro ?_ ?_ | exact True.intro | (refine eqS ?_; first | exact congrArg (fun z : Int => (I z : TS)) (by rw [hcs]; omega) | exact congrArg (fun z : Int => (I z : TS)) (by omega) | (simp only [List.set_set]; rw [← hs]) | (simp only [List.set_set, ← hs])))
 ·refine hN1 _ _ _ ?_
  have hn : i = xs.length := (by simp [mix_len (mkGuestS_len k xs)] at hb; omega)
  subst hn
  rw [mix_all (mkGuestS_len k xs) (Nat.le_refl _), List.take_length]
  exact ⟨rfl, rfl⟩
theorem laws_markBareS_f (xs : List VBare) (k : Int) (h1 : 0 ≤ k) (h2 : k + cntBareS xs ≤ 1000000000000000) (hmx : SmBareS xs) : Fun2 Tryz.prog 59 (⟨false, [.sl 4 (xs.map dBare)]⟩) [.one (.c (.ref ⟨1000000, [], 0⟩)), I k] (RP2 [.sl 4 ((mkBareS k xs).map dBare)] (I (k + cntBareS xs))) := by
 refine Fun2.w 41 Tryz.func59 fun w g0 _ => ?_
 refine loopW [] [] [] (fun (i : Nat) => [.set 0 (.one (.c (.ref ⟨1000000, [], 0⟩))), .set 1 (I (k + cntFold cntEBare (xs.take i))), .set 5 (I i)]) (fun (i : Nat) => [(1000000, ⟨false, [.own (.sl 4 ((mix (mkBareS k xs) xs i).map dBare))]⟩)]) (fun (i : Nat) => i ≤ xs.length) (fun (i : Nat) => xs.length - i) (0) (by simp) ?_
 refine ⟨(hdw (by repeat' first | exact rfl | refine And.intro ?_ ?_ | exact True.intro | (refine eqS ?_; simp [cntFold, mix_zero]))), fun i hyp N1 hN1 => ?_⟩
 have hyp : i ≤ xs.length := hyp
 refine len ?_
 refine spl (fun hb => ?_) (fun hb => ?_)
 ·have hi : i < xs.length := by simpa [mix_len (mkBareS_len k xs)] using hb
  have hlen : xs.length ≤ 2097152 := Nat.le_trans (show xs.length ≤ 1048576 from hmx.1) (by decide)
  obtain ⟨x, hx⟩ := at_of (xs := xs) (k := i) hi
  have hcs := cntFold_step (c := cntEBare) hx
  have hc1 := cntFold_le cntEBare_nn xs (i + 1)
  have hc0 := cntFold_nn cntEBare_nn (xs.take i)
  have hcd : cntFold cntEBare xs = cntBareS xs := rfl
  have hsx : SmBare x := hmx.2 x (List.mem_of_getElem? hx)
  have hn0 := cntIntSS_nn x.Memory
  have hn1 := cntGuestS_nn x.Guests
  have hn2 := cntIntS_nn x.Outs
  have hg : ((mix (mkBareS k xs) xs i).map dBare)[i]? = some (dBare x) := by simp [List.getElem?_map, mix_get (mkBareS_len k xs), hx]
  have hs : ((mix (mkBareS k xs) xs i).map dBare).set i (dBare (mkEBare (k + cntFold cntEBare (xs.take i)) x)) = ((mix (mkBareS k xs) xs (i + 1)).map dBare) := by rw [← mix_set (mkBareS_len k xs) (mkFold_get mkEBare cntEBare k hx), List.map_set]
  have hLl : ((mix (mkBareS k xs) xs i).map dBare).length = xs.length := by simp [mix_len (mkBareS_len k xs)]
  generalize ((mix (mkBareS k xs) xs i).map dBare) = L at *
  simp only [dBare, rBare, mkEBare, cntEBare] at hg hs hcs
  generalize hKI : cntFold cntEBare (xs.take i) = m at *
  refine bnd ?_ (by simp only [List.length_set, hLl]; omega)
  refine ixn hg ?_
  refine callN 1000000 0 i 0 (laws_markIntSS_f x.Memory ((k + m)) (by omega) (by omega) (hsx.1)) ?_
  refine ixn hg ?_
  refine And.intro rfl ?_
  refine bnd ?_ (by simp only [List.length_set, hLl]; omega)
  refine ixs ?_
  refine callN 1000000 0 i 1 (laws_markGuestS_f x.Guests ((k + m) + cntIntSS x.Memory) (by omega) (by omega) (hsx.2.1)) ?_
  refine ixs ?_
  refine And.intro rfl ?_
  refine bnd ?_ (by simp only [List.length_set, hLl]; omega)
  refine ixs ?_
  refine callN 1000000 0 i 2 (laws_markIntS_f x.Outs ((k + m) + cntIntSS x.Memory + cntGuestS x.Guests) (by omega) (by omega) (hsx.2.2)) ?_
  refine ixs ?_
  refine And.intro rfl ?_
  refine bnd ?_ (by simp only [List.length_set, hLl]; omega)
  refine ixs ?_
  refine rng ?_
  refine rng ?_
  refine hN1 _ _ _ ?_
  refine nxt [] (i + 1) (by omega) (by repeat' first | exact rfl | refine And.intro ?_ ?_ | exact True.intro | (refine eqS ?_; first | exact congrArg (fun z : Int => (I z : TS)) (by rw [hcs]; omega) | exact congrArg (fun z : Int => (I z : TS)) (by omega) | (simp only [List.set_set]; rw [← hs]) | (simp only [List.set_set, ← hs])))
 ·refine hN1 _ _ _ ?_
  have hn : i = xs.length := (by simp [mix_len (mkBareS_len k xs)] at hb; omega)
  subst hn
  rw [mix_all (mkBareS_len k xs) (Nat.le_refl _), List.take_length]
  exact ⟨rfl, rfl⟩
theorem laws_markToldS_f (xs : List VTold) (k : Int) (h1 : 0 ≤ k) (h2 : k + cntToldS xs ≤ 1000000000000000) (hmx : SmToldS xs) : Fun2 Tryz.prog 60 (⟨false, [.sl 2 (xs.map dTold)]⟩) [.one (.c (.ref ⟨1000000, [], 0⟩)), I k] (RP2 [.sl 2 ((mkToldS k xs).map dTold)] (I (k + cntToldS xs))) := by
 refine Fun2.w 29 Tryz.func60 fun w g0 _ => ?_
 refine loopW [] [] [] (fun (i : Nat) => [.set 0 (.one (.c (.ref ⟨1000000, [], 0⟩))), .set 1 (I (k + cntFold cntETold (xs.take i))), .set 5 (I i)]) (fun (i : Nat) => [(1000000, ⟨false, [.own (.sl 2 ((mix (mkToldS k xs) xs i).map dTold))]⟩)]) (fun (i : Nat) => i ≤ xs.length) (fun (i : Nat) => xs.length - i) (0) (by simp) ?_
 refine ⟨(hdw (by repeat' first | exact rfl | refine And.intro ?_ ?_ | exact True.intro | (refine eqS ?_; simp [cntFold, mix_zero]))), fun i hyp N1 hN1 => ?_⟩
 have hyp : i ≤ xs.length := hyp
 refine len ?_
 refine spl (fun hb => ?_) (fun hb => ?_)
 ·have hi : i < xs.length := by simpa [mix_len (mkToldS_len k xs)] using hb
  have hlen : xs.length ≤ 2097152 := Nat.le_trans (show xs.length ≤ 1048576 from hmx) (by decide)
  obtain ⟨x, hx⟩ := at_of (xs := xs) (k := i) hi
  have hcs := cntFold_step (c := cntETold) hx
  have hc1 := cntFold_le cntETold_nn xs (i + 1)
  have hc0 := cntFold_nn cntETold_nn (xs.take i)
  have hcd : cntFold cntETold xs = cntToldS xs := rfl
  have hg : ((mix (mkToldS k xs) xs i).map dTold)[i]? = some (dTold x) := by simp [List.getElem?_map, mix_get (mkToldS_len k xs), hx]
  have hs : ((mix (mkToldS k xs) xs i).map dTold).set i (dTold (mkETold (k + cntFold cntETold (xs.take i)) x)) = ((mix (mkToldS k xs) xs (i + 1)).map dTold) := by rw [← mix_set (mkToldS_len k xs) (mkFold_get mkETold cntETold k hx), List.map_set]
  have hLl : ((mix (mkToldS k xs) xs i).map dTold).length = xs.length := by simp [mix_len (mkToldS_len k xs)]
  generalize ((mix (mkToldS k xs) xs i).map dTold) = L at *
  simp only [dTold, rTold, mkETold, cntETold] at hg hs hcs
  generalize hKI : cntFold cntETold (xs.take i) = m at *
  refine nz ?_
  refine bnd ?_ (by simp only [List.length_set, hLl]; omega)
  refine ixn hg ?_
  refine rng ?_
  refine bnd ?_ (by simp only [List.length_set, hLl]; omega)
  refine ixs ?_
  refine rng ?_
  refine rng ?_
  refine hN1 _ _ _ ?_
  refine nxt [] (i + 1) (by omega) (by repeat' first | exact rfl | refine And.intro ?_ ?_ | exact True.intro | (refine eqS ?_; first | exact congrArg (fun z : Int => (I z : TS)) (by rw [hcs]; omega) | exact congrArg (fun z : Int => (I z : TS)) (by omega) | (simp only [List.set_set]; rw [← hs]) | (simp only [List.set_set, ← hs])))
 ·refine hN1 _ _ _ ?_
  have hn : i = xs.length := (by simp [mix_len (mkToldS_len k xs)] at hb; omega)
  subst hn
  rw [mix_all (mkToldS_len k xs) (Nat.le_refl _), List.take_length]
  exact ⟨rfl, rfl⟩
theorem laws_markActS_f (xs : List VAct) (k : Int) (h1 : 0 ≤ k) (h2 : k + cntActS xs ≤ 1000000000000000) (hmx : SmActS xs) : Fun2 Tryz.prog 58 (⟨false, [.sl 6 (xs.map dAct)]⟩) [.one (.c (.ref ⟨1000000, [], 0⟩)), I k] (RP2 [.sl 6 ((mkActS k xs).map dAct)] (I (k + cntActS xs))) := by
 refine Fun2.w 55 Tryz.func58 fun w g0 _ => ?_
 refine loopW [] [] [] (fun (i : Nat) => [.set 0 (.one (.c (.ref ⟨1000000, [], 0⟩))), .set 1 (I (k + cntFold cntEAct (xs.take i))), .set 5 (I i)]) (fun (i : Nat) => [(1000000, ⟨false, [.own (.sl 6 ((mix (mkActS k xs) xs i).map dAct))]⟩)]) (fun (i : Nat) => i ≤ xs.length) (fun (i : Nat) => xs.length - i) (0) (by simp) ?_
 refine ⟨(hdw (by repeat' first | exact rfl | refine And.intro ?_ ?_ | exact True.intro | (refine eqS ?_; simp [cntFold, mix_zero]))), fun i hyp N1 hN1 => ?_⟩
 have hyp : i ≤ xs.length := hyp
 refine len ?_
 refine spl (fun hb => ?_) (fun hb => ?_)
 ·have hi : i < xs.length := by simpa [mix_len (mkActS_len k xs)] using hb
  have hlen : xs.length ≤ 2097152 := Nat.le_trans (show xs.length ≤ 1048576 from hmx) (by decide)
  obtain ⟨x, hx⟩ := at_of (xs := xs) (k := i) hi
  have hcs := cntFold_step (c := cntEAct) hx
  have hc1 := cntFold_le cntEAct_nn xs (i + 1)
  have hc0 := cntFold_nn cntEAct_nn (xs.take i)
  have hcd : cntFold cntEAct xs = cntActS xs := rfl
  have hg : ((mix (mkActS k xs) xs i).map dAct)[i]? = some (dAct x) := by simp [List.getElem?_map, mix_get (mkActS_len k xs), hx]
  have hs : ((mix (mkActS k xs) xs i).map dAct).set i (dAct (mkEAct (k + cntFold cntEAct (xs.take i)) x)) = ((mix (mkActS k xs) xs (i + 1)).map dAct) := by rw [← mix_set (mkActS_len k xs) (mkFold_get mkEAct cntEAct k hx), List.map_set]
  have hLl : ((mix (mkActS k xs) xs i).map dAct).length = xs.length := by simp [mix_len (mkActS_len k xs)]
  generalize ((mix (mkActS k xs) xs i).map dAct) = L at *
  simp only [dAct, rAct, mkEAct, cntEAct] at hg hs hcs
  generalize hKI : cntFold cntEAct (xs.take i) = m at *
  refine bnd ?_ (by simp only [List.length_set, hLl]; omega)
  refine ixn hg ?_
  refine rng ?_
  refine bnd ?_ (by simp only [List.length_set, hLl]; omega)
  refine ixs ?_
  refine rng ?_
  refine bnd ?_ (by simp only [List.length_set, hLl]; omega)
  refine ixs ?_
  refine rng ?_
  refine bnd ?_ (by simp only [List.length_set, hLl]; omega)
  refine ixs ?_
  refine rng ?_
  refine bnd ?_ (by simp only [List.length_set, hLl]; omega)
  refine ixs ?_
  refine rng ?_
  refine bnd ?_ (by simp only [List.length_set, hLl]; omega)
  refine ixs ?_
  refine rng ?_
  refine rng ?_
  refine hN1 _ _ _ ?_
  refine nxt [] (i + 1) (by omega) (by repeat' first | exact rfl | refine And.intro ?_ ?_ | exact True.intro | (refine eqS ?_; first | exact congrArg (fun z : Int => (I z : TS)) (by rw [hcs]; omega) | exact congrArg (fun z : Int => (I z : TS)) (by omega) | (simp only [List.set_set]; rw [← hs]) | (simp only [List.set_set, ← hs])))
 ·refine hN1 _ _ _ ?_
  have hn : i = xs.length := (by simp [mix_len (mkActS_len k xs)] at hb; omega)
  subst hn
  rw [mix_all (mkActS_len k xs) (Nat.le_refl _), List.take_length]
  exact ⟨rfl, rfl⟩
theorem laws_markInsSS_f (xs : List (List VIns)) (k : Int) (h1 : 0 ≤ k) (h2 : k + cntInsSS xs ≤ 1000000000000000) (hmx : SmInsSS xs) : Fun2 Tryz.prog 163 (⟨false, [.sl 1 (xs.map dInsS)]⟩) [.one (.c (.ref ⟨1000000, [], 0⟩)), I k] (RP2 [.sl 1 ((mkInsSS k xs).map dInsS)] (I (k + cntInsSS xs))) := by
 refine Fun2.w 19 Tryz.func163 fun w g0 _ => ?_
 refine loopW [] [] [] (fun (i : Nat) => [.set 0 (.one (.c (.ref ⟨1000000, [], 0⟩))), .set 1 (I (k + cntFold cntInsS (xs.take i))), .set 5 (I i)]) (fun (i : Nat) => [(1000000, ⟨false, [.own (.sl 1 ((mix (mkInsSS k xs) xs i).map dInsS))]⟩)]) (fun (i : Nat) => i ≤ xs.length) (fun (i : Nat) => xs.length - i) (0) (by simp) ?_
 refine ⟨(hdw (by repeat' first | exact rfl | refine And.intro ?_ ?_ | exact True.intro | (refine eqS ?_; simp [cntFold, mix_zero]))), fun i hyp N1 hN1 => ?_⟩
 have hyp : i ≤ xs.length := hyp
 refine len ?_
 refine spl (fun hb => ?_) (fun hb => ?_)
 ·have hi : i < xs.length := by simpa [mix_len (mkInsSS_len k xs)] using hb
  have hlen : xs.length ≤ 2097152 := Nat.le_trans (show xs.length ≤ 1048576 from hmx.1) (by decide)
  obtain ⟨x, hx⟩ := at_of (xs := xs) (k := i) hi
  have hcs := cntFold_step (c := cntInsS) hx
  have hc1 := cntFold_le cntInsS_nn xs (i + 1)
  have hc0 := cntFold_nn cntInsS_nn (xs.take i)
  have hcd : cntFold cntInsS xs = cntInsSS xs := rfl
  have hsx : SmInsS x := hmx.2 x (List.mem_of_getElem? hx)
  have hn0 := cntInsS_nn x
  have hg : ((mix (mkInsSS k xs) xs i).map dInsS)[i]? = some (dInsS x) := by simp [List.getElem?_map, mix_get (mkInsSS_len k xs), hx]
  have hs : ((mix (mkInsSS k xs) xs i).map dInsS).set i (dInsS (mkInsS (k + cntFold cntInsS (xs.take i)) x)) = ((mix (mkInsSS k xs) xs (i + 1)).map dInsS) := by rw [← mix_set (mkInsSS_len k xs) (mkFold_get mkInsS cntInsS k hx), List.map_set]
  have hLl : ((mix (mkInsSS k xs) xs i).map dInsS).length = xs.length := by simp [mix_len (mkInsSS_len k xs)]
  generalize ((mix (mkInsSS k xs) xs i).map dInsS) = L at *
  simp only [dInsS] at hg hs
  generalize hKI : cntFold cntInsS (xs.take i) = m at *
  refine bnd ?_ (by simp only [List.length_set, hLl]; omega)
  refine ixn hg ?_
  refine callN 1000000 0 i 0 (laws_markInsS_f x ((k + m)) (by omega) (by omega) hsx) ?_
  refine ixn hg ?_
  refine And.intro rfl ?_
  refine rng ?_
  refine hN1 _ _ _ ?_
  refine nxt [] (i + 1) (by omega) (by repeat' first | exact rfl | refine And.intro ?_ ?_ | exact True.intro | (refine eqS ?_; first | exact congrArg (fun z : Int => (I z : TS)) (by rw [hcs]; omega) | exact congrArg (fun z : Int => (I z : TS)) (by omega) | (simp only [List.set_set]; rw [← hs]) | (simp only [List.set_set, ← hs])))
 ·refine hN1 _ _ _ ?_
  have hn : i = xs.length := (by simp [mix_len (mkInsSS_len k xs)] at hb; omega)
  subst hn
  rw [mix_all (mkInsSS_len k xs) (Nat.le_refl _), List.take_length]
  exact ⟨rfl, rfl⟩
theorem laws_markInsSSS_f (xs : List (List (List VIns))) (k : Int) (h1 : 0 ≤ k) (h2 : k + cntInsSSS xs ≤ 1000000000000000) (hmx : SmInsSSS xs) : Fun2 Tryz.prog 57 (⟨false, [.sl 1 (xs.map dInsSS)]⟩) [.one (.c (.ref ⟨1000000, [], 0⟩)), I k] (RP2 [.sl 1 ((mkInsSSS k xs).map dInsSS)] (I (k + cntInsSSS xs))) := by
 refine Fun2.w 19 Tryz.func57 fun w g0 _ => ?_
 refine loopW [] [] [] (fun (i : Nat) => [.set 0 (.one (.c (.ref ⟨1000000, [], 0⟩))), .set 1 (I (k + cntFold cntInsSS (xs.take i))), .set 5 (I i)]) (fun (i : Nat) => [(1000000, ⟨false, [.own (.sl 1 ((mix (mkInsSSS k xs) xs i).map dInsSS))]⟩)]) (fun (i : Nat) => i ≤ xs.length) (fun (i : Nat) => xs.length - i) (0) (by simp) ?_
 refine ⟨(hdw (by repeat' first | exact rfl | refine And.intro ?_ ?_ | exact True.intro | (refine eqS ?_; simp [cntFold, mix_zero]))), fun i hyp N1 hN1 => ?_⟩
 have hyp : i ≤ xs.length := hyp
 refine len ?_
 refine spl (fun hb => ?_) (fun hb => ?_)
 ·have hi : i < xs.length := by simpa [mix_len (mkInsSSS_len k xs)] using hb
  have hlen : xs.length ≤ 2097152 := Nat.le_trans (show xs.length ≤ 1048576 from hmx.1) (by decide)
  obtain ⟨x, hx⟩ := at_of (xs := xs) (k := i) hi
  have hcs := cntFold_step (c := cntInsSS) hx
  have hc1 := cntFold_le cntInsSS_nn xs (i + 1)
  have hc0 := cntFold_nn cntInsSS_nn (xs.take i)
  have hcd : cntFold cntInsSS xs = cntInsSSS xs := rfl
  have hsx : SmInsSS x := hmx.2 x (List.mem_of_getElem? hx)
  have hn0 := cntInsSS_nn x
  have hg : ((mix (mkInsSSS k xs) xs i).map dInsSS)[i]? = some (dInsSS x) := by simp [List.getElem?_map, mix_get (mkInsSSS_len k xs), hx]
  have hs : ((mix (mkInsSSS k xs) xs i).map dInsSS).set i (dInsSS (mkInsSS (k + cntFold cntInsSS (xs.take i)) x)) = ((mix (mkInsSSS k xs) xs (i + 1)).map dInsSS) := by rw [← mix_set (mkInsSSS_len k xs) (mkFold_get mkInsSS cntInsSS k hx), List.map_set]
  have hLl : ((mix (mkInsSSS k xs) xs i).map dInsSS).length = xs.length := by simp [mix_len (mkInsSSS_len k xs)]
  generalize ((mix (mkInsSSS k xs) xs i).map dInsSS) = L at *
  simp only [dInsSS] at hg hs
  generalize hKI : cntFold cntInsSS (xs.take i) = m at *
  refine bnd ?_ (by simp only [List.length_set, hLl]; omega)
  refine ixn hg ?_
  refine callN 1000000 0 i 0 (laws_markInsSS_f x ((k + m)) (by omega) (by omega) hsx) ?_
  refine ixn hg ?_
  refine And.intro rfl ?_
  refine rng ?_
  refine hN1 _ _ _ ?_
  refine nxt [] (i + 1) (by omega) (by repeat' first | exact rfl | refine And.intro ?_ ?_ | exact True.intro | (refine eqS ?_; first | exact congrArg (fun z : Int => (I z : TS)) (by rw [hcs]; omega) | exact congrArg (fun z : Int => (I z : TS)) (by omega) | (simp only [List.set_set]; rw [← hs]) | (simp only [List.set_set, ← hs])))
 ·refine hN1 _ _ _ ?_
  have hn : i = xs.length := (by simp [mix_len (mkInsSSS_len k xs)] at hb; omega)
  subst hn
  rw [mix_all (mkInsSSS_len k xs) (Nat.le_refl _), List.take_length]
  exact ⟨rfl, rfl⟩
end Go.Proofs.YteelmdpahpggkaaGreat.T

