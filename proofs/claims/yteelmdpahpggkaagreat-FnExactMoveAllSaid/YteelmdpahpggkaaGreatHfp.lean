
import Derived.Test.YteelmdpahpggkaaGreatHdp
namespace Go.Proofs.YteelmdpahpggkaaGreat.T
open Go
set_option linter.unusedVariables false
set_option linter.unusedSimpArgs false
set_option maxRecDepth 100000
set_option maxHeartbeats 1000000
theorem laws_heldIntS_f (xs : List Int) (k : Int) (h1 : 0 ≤ k) (h2 : k + cntIntS xs ≤ 1000000000000000) (hmx : SmIntS xs) : Fun Tryz.prog 65 [L 1 ((mkIntS k xs).map dInt), I k] (RV (.int .i64 (k + cntIntS xs))) := by
 refine Fun.w 21 Tryz.func65 fun w g0 _ => ?_
 refine loopW [] [] [] (fun (i : Nat) => [.set 0 (L 1 ((mkIntS k xs).map dInt)), .set 1 (I (k + cntFold cntEInt (xs.take i))), .set 5 (I i)]) (fun (i : Nat) => []) (fun (i : Nat) => i ≤ xs.length) (fun (i : Nat) => xs.length - i) (0) (by simp) ?_
 refine ⟨(hdw (by repeat' first | exact rfl | refine And.intro ?_ ?_ | exact True.intro | (refine eqS ?_; simp [cntFold]))), fun i hyp N1 hN1 => ?_⟩
 have hyp : i ≤ xs.length := hyp
 refine len ?_
 refine spl (fun hb => ?_) (fun hb => ?_)
 ·have hi : i < xs.length := by simpa [mkIntS_len] using hb
  have hlen : xs.length ≤ 2097152 := Nat.le_trans (show xs.length ≤ 1048576 from hmx) (by decide)
  obtain ⟨x, hx⟩ := at_of (xs := xs) (k := i) hi
  have hcs := cntFold_step (c := cntEInt) hx
  have hc1 := cntFold_le cntEInt_nn xs (i + 1)
  have hc0 := cntFold_nn cntEInt_nn (xs.take i)
  have hcd : cntFold cntEInt xs = cntIntS xs := rfl
  have hg : (mkIntS k xs)[i]? = some (mkEInt (k + cntFold cntEInt (xs.take i)) x) := mkFold_get mkEInt cntEInt k hx
  generalize hKI : cntFold cntEInt (xs.take i) = m at *
  simp only [cntEInt] at hcs
  refine ixm hg ?_
  refine spl (fun hb => ?_) (fun hb => ?_)
  ·(exfalso; first | omega | (simp [mkEInt] at hb; done) | (simp [mkEInt] at hb; omega) | (simp at hb; omega))
  ·refine rng ?_
   refine rng ?_
   refine hN1 _ _ _ ?_
   refine nxt [] (i + 1) (by omega) (by repeat' first | exact rfl | refine And.intro ?_ ?_ | exact True.intro | (refine eqS ?_; first | exact congrArg (fun z : Int => (I z : TS)) (by rw [hcs]; omega) | exact congrArg (fun z : Int => (I z : TS)) (by omega)))
 ·refine hN1 _ _ _ ?_
  exact resV (by have hn : i = xs.length := (by simp [mkIntS_len] at hb; omega); subst hn; rw [List.take_length]; rfl)
theorem laws_heldIntSS_f (xs : List (List Int)) (k : Int) (h1 : 0 ≤ k) (h2 : k + cntIntSS xs ≤ 1000000000000000) (hmx : SmIntSS xs) : Fun Tryz.prog 91 [L 1 ((mkIntSS k xs).map dIntS), I k] (RV (.int .i64 (k + cntIntSS xs))) := by
 refine Fun.w 21 Tryz.func91 fun w g0 _ => ?_
 refine loopW [] [] [] (fun (i : Nat) => [.set 0 (L 1 ((mkIntSS k xs).map dIntS)), .set 1 (I (k + cntFold cntIntS (xs.take i))), .set 5 (I i)]) (fun (i : Nat) => []) (fun (i : Nat) => i ≤ xs.length) (fun (i : Nat) => xs.length - i) (0) (by simp) ?_
 refine ⟨(hdw (by repeat' first | exact rfl | refine And.intro ?_ ?_ | exact True.intro | (refine eqS ?_; simp [cntFold]))), fun i hyp N1 hN1 => ?_⟩
 have hyp : i ≤ xs.length := hyp
 refine len ?_
 refine spl (fun hb => ?_) (fun hb => ?_)
 ·have hi : i < xs.length := by simpa [mkIntSS_len] using hb
  have hlen : xs.length ≤ 2097152 := Nat.le_trans (show xs.length ≤ 1048576 from hmx.1) (by decide)
  obtain ⟨x, hx⟩ := at_of (xs := xs) (k := i) hi
  have hcs := cntFold_step (c := cntIntS) hx
  have hc1 := cntFold_le cntIntS_nn xs (i + 1)
  have hc0 := cntFold_nn cntIntS_nn (xs.take i)
  have hcd : cntFold cntIntS xs = cntIntSS xs := rfl
  have hg : (mkIntSS k xs)[i]? = some (mkIntS (k + cntFold cntIntS (xs.take i)) x) := mkFold_get mkIntS cntIntS k hx
  have hsx : SmIntS x := hmx.2 x (List.mem_of_getElem? hx)
  have hn0 := cntIntS_nn x
  generalize hKI : cntFold cntIntS (xs.take i) = m at *
  skip
  refine ixm hg ?_
  refine callP (laws_heldIntS_f x ((k + m)) (by omega) (by omega) hsx).k ?_
  refine spl (fun hb => ?_) (fun hb => ?_)
  ·(exfalso; first | omega | (simp [mkIntS] at hb; done) | (simp [mkIntS] at hb; omega) | (simp at hb; omega))
  ·refine rng ?_
   refine hN1 _ _ _ ?_
   refine nxt [] (i + 1) (by omega) (by repeat' first | exact rfl | refine And.intro ?_ ?_ | exact True.intro | (refine eqS ?_; first | exact congrArg (fun z : Int => (I z : TS)) (by rw [hcs]; omega) | exact congrArg (fun z : Int => (I z : TS)) (by omega)))
 ·refine hN1 _ _ _ ?_
  exact resV (by have hn : i = xs.length := (by simp [mkIntSS_len] at hb; omega); subst hn; rw [List.take_length]; rfl)
theorem laws_heldSlotS_f (xs : List VSlot) (k : Int) (h1 : 0 ≤ k) (h2 : k + cntSlotS xs ≤ 1000000000000000) (hmx : SmSlotS xs) : Fun Tryz.prog 135 [L 2 ((mkSlotS k xs).map dSlot), I k] (RV (.int .i64 (k + cntSlotS xs))) := by
 refine Fun.w 31 Tryz.func135 fun w g0 _ => ?_
 refine loopW [] [] [] (fun (i : Nat) => [.set 0 (L 2 ((mkSlotS k xs).map dSlot)), .set 1 (I (k + cntFold cntESlot (xs.take i))), .set 5 (I i)]) (fun (i : Nat) => []) (fun (i : Nat) => i ≤ xs.length) (fun (i : Nat) => xs.length - i) (0) (by simp) ?_
 refine ⟨(hdw (by repeat' first | exact rfl | refine And.intro ?_ ?_ | exact True.intro | (refine eqS ?_; simp [cntFold]))), fun i hyp N1 hN1 => ?_⟩
 have hyp : i ≤ xs.length := hyp
 refine len ?_
 refine spl (fun hb => ?_) (fun hb => ?_)
 ·have hi : i < xs.length := by simpa [mkSlotS_len] using hb
  have hlen : xs.length ≤ 2097152 := Nat.le_trans (show xs.length ≤ 1048576 from hmx) (by decide)
  obtain ⟨x, hx⟩ := at_of (xs := xs) (k := i) hi
  have hcs := cntFold_step (c := cntESlot) hx
  have hc1 := cntFold_le cntESlot_nn xs (i + 1)
  have hc0 := cntFold_nn cntESlot_nn (xs.take i)
  have hcd : cntFold cntESlot xs = cntSlotS xs := rfl
  have hg : (mkSlotS k xs)[i]? = some (mkESlot (k + cntFold cntESlot (xs.take i)) x) := mkFold_get mkESlot cntESlot k hx
  generalize hKI : cntFold cntESlot (xs.take i) = m at *
  simp only [cntESlot] at hcs
  refine ixm hg ?_
  refine spl (fun hb => ?_) (fun hb => ?_)
  ·(exfalso; first | omega | (simp [mkESlot] at hb; done) | (simp [mkESlot] at hb; omega) | (simp at hb; omega))
  ·refine rng ?_
   refine ixm hg ?_
   refine spl (fun hb => ?_) (fun hb => ?_)
   ·(exfalso; first | omega | (simp [mkESlot] at hb; done) | (simp [mkESlot] at hb; omega) | (simp at hb; omega))
   ·refine rng ?_
    refine rng ?_
    refine hN1 _ _ _ ?_
    refine nxt [] (i + 1) (by omega) (by repeat' first | exact rfl | refine And.intro ?_ ?_ | exact True.intro | (refine eqS ?_; first | exact congrArg (fun z : Int => (I z : TS)) (by rw [hcs]; omega) | exact congrArg (fun z : Int => (I z : TS)) (by omega)))
 ·refine hN1 _ _ _ ?_
  exact resV (by have hn : i = xs.length := (by simp [mkSlotS_len] at hb; omega); subst hn; rw [List.take_length]; rfl)
theorem laws_heldBoolS_f (xs : List Bool) (k : Int) (h1 : 0 ≤ k) (h2 : k + cntBoolS xs ≤ 1000000000000000) (hmx : SmBoolS xs) : Fun Tryz.prog 136 [L 1 ((mkBoolS k xs).map dBool), I k] (RV (.int .i64 (k + cntBoolS xs))) := by
 refine Fun.w 23 Tryz.func136 fun w g0 _ => ?_
 refine loopW [] [] [] (fun (i : Nat) => [.set 0 (L 1 ((mkBoolS k xs).map dBool)), .set 1 (I (k + cntFold cntEBool (xs.take i))), .set 5 (I i)]) (fun (i : Nat) => []) (fun (i : Nat) => i ≤ xs.length) (fun (i : Nat) => xs.length - i) (0) (by simp) ?_
 refine ⟨(hdw (by repeat' first | exact rfl | refine And.intro ?_ ?_ | exact True.intro | (refine eqS ?_; simp [cntFold]))), fun i hyp N1 hN1 => ?_⟩
 have hyp : i ≤ xs.length := hyp
 refine len ?_
 refine spl (fun hb => ?_) (fun hb => ?_)
 ·have hi : i < xs.length := by simpa [mkBoolS_len] using hb
  have hlen : xs.length ≤ 2097152 := Nat.le_trans (show xs.length ≤ 1048576 from hmx) (by decide)
  obtain ⟨x, hx⟩ := at_of (xs := xs) (k := i) hi
  have hcs := cntFold_step (c := cntEBool) hx
  have hc1 := cntFold_le cntEBool_nn xs (i + 1)
  have hc0 := cntFold_nn cntEBool_nn (xs.take i)
  have hcd : cntFold cntEBool xs = cntBoolS xs := rfl
  have hg : (mkBoolS k xs)[i]? = some (mkEBool (k + cntFold cntEBool (xs.take i)) x) := mkFold_get mkEBool cntEBool k hx
  generalize hKI : cntFold cntEBool (xs.take i) = m at *
  simp only [cntEBool] at hcs
  refine ixm hg ?_
  refine nz ?_
  refine spl (fun hb => ?_) (fun hb => ?_)
  ·(exfalso; first | omega | (simp [mkEBool] at hb; done) | (simp [mkEBool] at hb; omega) | (simp at hb; omega))
  ·refine rng ?_
   refine rng ?_
   refine hN1 _ _ _ ?_
   refine nxt [] (i + 1) (by omega) (by repeat' first | exact rfl | refine And.intro ?_ ?_ | exact True.intro | (refine eqS ?_; first | exact congrArg (fun z : Int => (I z : TS)) (by rw [hcs]; omega) | exact congrArg (fun z : Int => (I z : TS)) (by omega)))
 ·refine hN1 _ _ _ ?_
  exact resV (by have hn : i = xs.length := (by simp [mkBoolS_len] at hb; omega); subst hn; rw [List.take_length]; rfl)
theorem laws_heldInsS_f (xs : List VIns) (k : Int) (h1 : 0 ≤ k) (h2 : k + cntInsS xs ≤ 1000000000000000) (hmx : SmInsS xs) : Fun Tryz.prog 223 [L 2 ((mkInsS k xs).map dIns), I k] (RV (.int .i64 (k + cntInsS xs))) := by
 refine Fun.w 31 Tryz.func223 fun w g0 _ => ?_
 refine loopW [] [] [] (fun (i : Nat) => [.set 0 (L 2 ((mkInsS k xs).map dIns)), .set 1 (I (k + cntFold cntEIns (xs.take i))), .set 5 (I i)]) (fun (i : Nat) => []) (fun (i : Nat) => i ≤ xs.length) (fun (i : Nat) => xs.length - i) (0) (by simp) ?_
 refine ⟨(hdw (by repeat' first | exact rfl | refine And.intro ?_ ?_ | exact True.intro | (refine eqS ?_; simp [cntFold]))), fun i hyp N1 hN1 => ?_⟩
 have hyp : i ≤ xs.length := hyp
 refine len ?_
 refine spl (fun hb => ?_) (fun hb => ?_)
 ·have hi : i < xs.length := by simpa [mkInsS_len] using hb
  have hlen : xs.length ≤ 2097152 := Nat.le_trans (show xs.length ≤ 1048576 from hmx) (by decide)
  obtain ⟨x, hx⟩ := at_of (xs := xs) (k := i) hi
  have hcs := cntFold_step (c := cntEIns) hx
  have hc1 := cntFold_le cntEIns_nn xs (i + 1)
  have hc0 := cntFold_nn cntEIns_nn (xs.take i)
  have hcd : cntFold cntEIns xs = cntInsS xs := rfl
  have hg : (mkInsS k xs)[i]? = some (mkEIns (k + cntFold cntEIns (xs.take i)) x) := mkFold_get mkEIns cntEIns k hx
  generalize hKI : cntFold cntEIns (xs.take i) = m at *
  simp only [cntEIns] at hcs
  refine ixm hg ?_
  refine spl (fun hb => ?_) (fun hb => ?_)
  ·(exfalso; first | omega | (simp [mkEIns] at hb; done) | (simp [mkEIns] at hb; omega) | (simp at hb; omega))
  ·refine rng ?_
   refine ixm hg ?_
   refine spl (fun hb => ?_) (fun hb => ?_)
   ·(exfalso; first | omega | (simp [mkEIns] at hb; done) | (simp [mkEIns] at hb; omega) | (simp at hb; omega))
   ·refine rng ?_
    refine rng ?_
    refine hN1 _ _ _ ?_
    refine nxt [] (i + 1) (by omega) (by repeat' first | exact rfl | refine And.intro ?_ ?_ | exact True.intro | (refine eqS ?_; first | exact congrArg (fun z : Int => (I z : TS)) (by rw [hcs]; omega) | exact congrArg (fun z : Int => (I z : TS)) (by omega)))
 ·refine hN1 _ _ _ ?_
  exact resV (by have hn : i = xs.length := (by simp [mkInsS_len] at hb; omega); subst hn; rw [List.take_length]; rfl)
theorem laws_heldGuestS_f (xs : List VGuest) (k : Int) (h1 : 0 ≤ k) (h2 : k + cntGuestS xs ≤ 1000000000000000) (hmx : SmGuestS xs) : Fun Tryz.prog 137 [L 15 ((mkGuestS k xs).map dGuest), I k] (RV (.int .i64 (k + cntGuestS xs))) := by
 refine Fun.w 161 Tryz.func137 fun w g0 _ => ?_
 refine loopW [] [] [] (fun (i : Nat) => [.set 0 (L 15 ((mkGuestS k xs).map dGuest)), .set 1 (I (k + cntFold cntEGuest (xs.take i))), .set 5 (I i)]) (fun (i : Nat) => []) (fun (i : Nat) => i ≤ xs.length) (fun (i : Nat) => xs.length - i) (0) (by simp) ?_
 refine ⟨(hdw (by repeat' first | exact rfl | refine And.intro ?_ ?_ | exact True.intro | (refine eqS ?_; simp [cntFold]))), fun i hyp N1 hN1 => ?_⟩
 have hyp : i ≤ xs.length := hyp
 refine len ?_
 refine spl (fun hb => ?_) (fun hb => ?_)
 ·have hi : i < xs.length := by simpa [mkGuestS_len] using hb
  have hlen : xs.length ≤ 2097152 := Nat.le_trans (show xs.length ≤ 1048576 from hmx.1) (by decide)
  obtain ⟨x, hx⟩ := at_of (xs := xs) (k := i) hi
  have hcs := cntFold_step (c := cntEGuest) hx
  have hc1 := cntFold_le cntEGuest_nn xs (i + 1)
  have hc0 := cntFold_nn cntEGuest_nn (xs.take i)
  have hcd : cntFold cntEGuest xs = cntGuestS xs := rfl
  have hg : (mkGuestS k xs)[i]? = some (mkEGuest (k + cntFold cntEGuest (xs.take i)) x) := mkFold_get mkEGuest cntEGuest k hx
  have hsx : SmGuest x := hmx.2 x (List.mem_of_getElem? hx)
  have hn0 := cntInsS_nn x.Prog
  have hn1 := cntSlotS_nn x.Written
  have hn2 := cntSlotS_nn x.Live
  have hn3 := cntIntS_nn x.Seen
  generalize hKI : cntFold cntEGuest (xs.take i) = m at *
  simp only [cntEGuest] at hcs
  refine ixm hg ?_
  refine callP (laws_heldInsS_f x.Prog ((k + m)) (by omega) (by omega) (hsx.1)).k ?_
  refine spl (fun hb => ?_) (fun hb => ?_)
  ·(exfalso; first | omega | (simp [mkEGuest] at hb; done) | (simp [mkEGuest] at hb; omega) | (simp at hb; omega))
  ·refine ixm hg ?_
   refine spl (fun hb => ?_) (fun hb => ?_)
   ·(exfalso; first | omega | (simp [mkEGuest] at hb; done) | (simp [mkEGuest] at hb; omega) | (simp at hb; omega))
   ·refine rng ?_
    refine ixm hg ?_
    refine spl (fun hb => ?_) (fun hb => ?_)
    ·(exfalso; first | omega | (simp [mkEGuest] at hb; done) | (simp [mkEGuest] at hb; omega) | (simp at hb; omega))
    ·refine rng ?_
     refine ixm hg ?_
     refine callP (laws_heldSlotS_f x.Written ((k + m) + cntInsS x.Prog + 1 + 1) (by omega) (by omega) (hsx.2.1)).k ?_
     refine spl (fun hb => ?_) (fun hb => ?_)
     ·(exfalso; first | omega | (simp [mkEGuest] at hb; done) | (simp [mkEGuest] at hb; omega) | (simp at hb; omega))
     ·refine ixm hg ?_
      refine callP (laws_heldSlotS_f x.Live ((k + m) + cntInsS x.Prog + 1 + 1 + cntSlotS x.Written) (by omega) (by omega) (hsx.2.2.1)).k ?_
      refine spl (fun hb => ?_) (fun hb => ?_)
      ·(exfalso; first | omega | (simp [mkEGuest] at hb; done) | (simp [mkEGuest] at hb; omega) | (simp at hb; omega))
      ·refine ixm hg ?_
       refine spl (fun hb => ?_) (fun hb => ?_)
       ·(exfalso; first | omega | (simp [mkEGuest] at hb; done) | (simp [mkEGuest] at hb; omega) | (simp at hb; omega))
       ·refine rng ?_
        refine ixm hg ?_
        refine spl (fun hb => ?_) (fun hb => ?_)
        ·(exfalso; first | omega | (simp [mkEGuest] at hb; done) | (simp [mkEGuest] at hb; omega) | (simp at hb; omega))
        ·refine rng ?_
         refine ixm hg ?_
         refine nz ?_
         refine spl (fun hb => ?_) (fun hb => ?_)
         ·(exfalso; first | omega | (simp [mkEGuest] at hb; done) | (simp [mkEGuest] at hb; omega) | (simp at hb; omega))
         ·refine rng ?_
          refine ixm hg ?_
          refine spl (fun hb => ?_) (fun hb => ?_)
          ·(exfalso; first | omega | (simp [mkEGuest] at hb; done) | (simp [mkEGuest] at hb; omega) | (simp at hb; omega))
          ·refine rng ?_
           refine ixm hg ?_
           refine spl (fun hb => ?_) (fun hb => ?_)
           ·(exfalso; first | omega | (simp [mkEGuest] at hb; done) | (simp [mkEGuest] at hb; omega) | (simp at hb; omega))
           ·refine rng ?_
            refine ixm hg ?_
            refine spl (fun hb => ?_) (fun hb => ?_)
            ·(exfalso; first | omega | (simp [mkEGuest] at hb; done) | (simp [mkEGuest] at hb; omega) | (simp at hb; omega))
            ·refine rng ?_
             refine ixm hg ?_
             refine nz ?_
             refine spl (fun hb => ?_) (fun hb => ?_)
             ·(exfalso; first | omega | (simp [mkEGuest] at hb; done) | (simp [mkEGuest] at hb; omega) | (simp at hb; omega))
             ·refine rng ?_
              refine ixm hg ?_
              refine spl (fun hb => ?_) (fun hb => ?_)
              ·(exfalso; first | omega | (simp [mkEGuest] at hb; done) | (simp [mkEGuest] at hb; omega) | (simp at hb; omega))
              ·refine rng ?_
               refine ixm hg ?_
               refine nz ?_
               refine spl (fun hb => ?_) (fun hb => ?_)
               ·(exfalso; first | omega | (simp [mkEGuest] at hb; done) | (simp [mkEGuest] at hb; omega) | (simp at hb; omega))
               ·refine rng ?_
                refine ixm hg ?_
                refine callP (laws_heldIntS_f x.Seen ((k + m) + cntInsS x.Prog + 1 + 1 + cntSlotS x.Written + cntSlotS x.Live + 1 + 1 + 1 + 1 + 1 + 1 + 1 + 1 + 1) (by omega) (by omega) (hsx.2.2.2)).k ?_
                refine spl (fun hb => ?_) (fun hb => ?_)
                ·(exfalso; first | omega | (simp [mkEGuest] at hb; done) | (simp [mkEGuest] at hb; omega) | (simp at hb; omega))
                ·refine rng ?_
                 refine hN1 _ _ _ ?_
                 refine nxt [] (i + 1) (by omega) (by repeat' first | exact rfl | refine And.intro ?_ ?_ | exact True.intro | (refine eqS ?_; first | exact congrArg (fun z : Int => (I z : TS)) (by rw [hcs]; omega) | exact congrArg (fun z : Int => (I z : TS)) (by omega)))
 ·refine hN1 _ _ _ ?_
  exact resV (by have hn : i = xs.length := (by simp [mkGuestS_len] at hb; omega); subst hn; rw [List.take_length]; rfl)
theorem laws_heldKeptS_f (xs : List VKept) (k : Int) (h1 : 0 ≤ k) (h2 : k + cntKeptS xs ≤ 1000000000000000) (hmx : SmKeptS xs) : Fun Tryz.prog 138 [L 2 ((mkKeptS k xs).map dKept), I k] (RV (.int .i64 (k + cntKeptS xs))) := by
 refine Fun.w 31 Tryz.func138 fun w g0 _ => ?_
 refine loopW [] [] [] (fun (i : Nat) => [.set 0 (L 2 ((mkKeptS k xs).map dKept)), .set 1 (I (k + cntFold cntEKept (xs.take i))), .set 5 (I i)]) (fun (i : Nat) => []) (fun (i : Nat) => i ≤ xs.length) (fun (i : Nat) => xs.length - i) (0) (by simp) ?_
 refine ⟨(hdw (by repeat' first | exact rfl | refine And.intro ?_ ?_ | exact True.intro | (refine eqS ?_; simp [cntFold]))), fun i hyp N1 hN1 => ?_⟩
 have hyp : i ≤ xs.length := hyp
 refine len ?_
 refine spl (fun hb => ?_) (fun hb => ?_)
 ·have hi : i < xs.length := by simpa [mkKeptS_len] using hb
  have hlen : xs.length ≤ 2097152 := Nat.le_trans (show xs.length ≤ 1048576 from hmx.1) (by decide)
  obtain ⟨x, hx⟩ := at_of (xs := xs) (k := i) hi
  have hcs := cntFold_step (c := cntEKept) hx
  have hc1 := cntFold_le cntEKept_nn xs (i + 1)
  have hc0 := cntFold_nn cntEKept_nn (xs.take i)
  have hcd : cntFold cntEKept xs = cntKeptS xs := rfl
  have hg : (mkKeptS k xs)[i]? = some (mkEKept (k + cntFold cntEKept (xs.take i)) x) := mkFold_get mkEKept cntEKept k hx
  have hsx : SmKept x := hmx.2 x (List.mem_of_getElem? hx)
  have hn0 := cntBoolS_nn x.Known
  have hn1 := cntSlotS_nn x.Slots
  generalize hKI : cntFold cntEKept (xs.take i) = m at *
  simp only [cntEKept] at hcs
  refine ixm hg ?_
  refine callP (laws_heldBoolS_f x.Known ((k + m)) (by omega) (by omega) (hsx.1)).k ?_
  refine spl (fun hb => ?_) (fun hb => ?_)
  ·(exfalso; first | omega | (simp [mkEKept] at hb; done) | (simp [mkEKept] at hb; omega) | (simp at hb; omega))
  ·refine ixm hg ?_
   refine callP (laws_heldSlotS_f x.Slots ((k + m) + cntBoolS x.Known) (by omega) (by omega) (hsx.2)).k ?_
   refine spl (fun hb => ?_) (fun hb => ?_)
   ·(exfalso; first | omega | (simp [mkEKept] at hb; done) | (simp [mkEKept] at hb; omega) | (simp at hb; omega))
   ·refine rng ?_
    refine hN1 _ _ _ ?_
    refine nxt [] (i + 1) (by omega) (by repeat' first | exact rfl | refine And.intro ?_ ?_ | exact True.intro | (refine eqS ?_; first | exact congrArg (fun z : Int => (I z : TS)) (by rw [hcs]; omega) | exact congrArg (fun z : Int => (I z : TS)) (by omega)))
 ·refine hN1 _ _ _ ?_
  exact resV (by have hn : i = xs.length := (by simp [mkKeptS_len] at hb; omega); subst hn; rw [List.take_length]; rfl)
theorem laws_heldMonS_f (xs : List VMon) (k : Int) (h1 : 0 ≤ k) (h2 : k + cntMonS xs ≤ 1000000000000000) (hmx : SmMonS xs) : Fun Tryz.prog 92 [L 9 ((mkMonS k xs).map dMon), I k] (RV (.int .i64 (k + cntMonS xs))) := by
 refine Fun.w 94 Tryz.func92 fun w g0 _ => ?_
 refine loopW [] [] [] (fun (i : Nat) => [.set 0 (L 9 ((mkMonS k xs).map dMon)), .set 1 (I (k + cntFold cntEMon (xs.take i))), .set 5 (I i)]) (fun (i : Nat) => []) (fun (i : Nat) => i ≤ xs.length) (fun (i : Nat) => xs.length - i) (0) (by simp) ?_
 refine ⟨(hdw (by repeat' first | exact rfl | refine And.intro ?_ ?_ | exact True.intro | (refine eqS ?_; simp [cntFold]))), fun i hyp N1 hN1 => ?_⟩
 have hyp : i ≤ xs.length := hyp
 refine len ?_
 refine spl (fun hb => ?_) (fun hb => ?_)
 ·have hi : i < xs.length := by simpa [mkMonS_len] using hb
  have hlen : xs.length ≤ 2097152 := Nat.le_trans (show xs.length ≤ 1048576 from hmx.1) (by decide)
  obtain ⟨x, hx⟩ := at_of (xs := xs) (k := i) hi
  have hcs := cntFold_step (c := cntEMon) hx
  have hc1 := cntFold_le cntEMon_nn xs (i + 1)
  have hc0 := cntFold_nn cntEMon_nn (xs.take i)
  have hcd : cntFold cntEMon xs = cntMonS xs := rfl
  have hg : (mkMonS k xs)[i]? = some (mkEMon (k + cntFold cntEMon (xs.take i)) x) := mkFold_get mkEMon cntEMon k hx
  have hsx : SmMon x := hmx.2 x (List.mem_of_getElem? hx)
  have hn0 := cntSlotS_nn x.Outer
  have hn1 := cntIntSS_nn x.Out
  have hn2 := cntBoolS_nn x.Dirty
  have hn3 := cntGuestS_nn x.Guests
  have hn4 := cntIntS_nn x.Outs
  have hn5 := cntKeptS_nn x.Tables
  generalize hKI : cntFold cntEMon (xs.take i) = m at *
  simp only [cntEMon] at hcs
  refine ixm hg ?_
  refine callP (laws_heldSlotS_f x.Outer ((k + m)) (by omega) (by omega) (hsx.1)).k ?_
  refine spl (fun hb => ?_) (fun hb => ?_)
  ·(exfalso; first | omega | (simp [mkEMon] at hb; done) | (simp [mkEMon] at hb; omega) | (simp at hb; omega))
  ·refine ixm hg ?_
   refine callP (laws_heldIntSS_f x.Out ((k + m) + cntSlotS x.Outer) (by omega) (by omega) (hsx.2.1)).k ?_
   refine spl (fun hb => ?_) (fun hb => ?_)
   ·(exfalso; first | omega | (simp [mkEMon] at hb; done) | (simp [mkEMon] at hb; omega) | (simp at hb; omega))
   ·refine ixm hg ?_
    refine callP (laws_heldBoolS_f x.Dirty ((k + m) + cntSlotS x.Outer + cntIntSS x.Out) (by omega) (by omega) (hsx.2.2.1)).k ?_
    refine spl (fun hb => ?_) (fun hb => ?_)
    ·(exfalso; first | omega | (simp [mkEMon] at hb; done) | (simp [mkEMon] at hb; omega) | (simp at hb; omega))
    ·refine ixm hg ?_
     refine callP (laws_heldGuestS_f x.Guests ((k + m) + cntSlotS x.Outer + cntIntSS x.Out + cntBoolS x.Dirty) (by omega) (by omega) (hsx.2.2.2.1)).k ?_
     refine spl (fun hb => ?_) (fun hb => ?_)
     ·(exfalso; first | omega | (simp [mkEMon] at hb; done) | (simp [mkEMon] at hb; omega) | (simp at hb; omega))
     ·refine ixm hg ?_
      refine callP (laws_heldIntS_f x.Outs ((k + m) + cntSlotS x.Outer + cntIntSS x.Out + cntBoolS x.Dirty + cntGuestS x.Guests) (by omega) (by omega) (hsx.2.2.2.2.1)).k ?_
      refine spl (fun hb => ?_) (fun hb => ?_)
      ·(exfalso; first | omega | (simp [mkEMon] at hb; done) | (simp [mkEMon] at hb; omega) | (simp at hb; omega))
      ·refine ixm hg ?_
       refine spl (fun hb => ?_) (fun hb => ?_)
       ·(exfalso; first | omega | (simp [mkEMon] at hb; done) | (simp [mkEMon] at hb; omega) | (simp at hb; omega))
       ·refine rng ?_
        refine ixm hg ?_
        refine spl (fun hb => ?_) (fun hb => ?_)
        ·(exfalso; first | omega | (simp [mkEMon] at hb; done) | (simp [mkEMon] at hb; omega) | (simp at hb; omega))
        ·refine rng ?_
         refine ixm hg ?_
         refine callP (laws_heldKeptS_f x.Tables ((k + m) + cntSlotS x.Outer + cntIntSS x.Out + cntBoolS x.Dirty + cntGuestS x.Guests + cntIntS x.Outs + 1 + 1) (by omega) (by omega) (hsx.2.2.2.2.2)).k ?_
         refine spl (fun hb => ?_) (fun hb => ?_)
         ·(exfalso; first | omega | (simp [mkEMon] at hb; done) | (simp [mkEMon] at hb; omega) | (simp at hb; omega))
         ·refine ixm hg ?_
          refine spl (fun hb => ?_) (fun hb => ?_)
          ·(exfalso; first | omega | (simp [mkEMon] at hb; done) | (simp [mkEMon] at hb; omega) | (simp at hb; omega))
          ·refine rng ?_
           refine rng ?_
           refine hN1 _ _ _ ?_
           refine nxt [] (i + 1) (by omega) (by repeat' first | exact rfl | refine And.intro ?_ ?_ | exact True.intro | (refine eqS ?_; first | exact congrArg (fun z : Int => (I z : TS)) (by rw [hcs]; omega) | exact congrArg (fun z : Int => (I z : TS)) (by omega)))
 ·refine hN1 _ _ _ ?_
  exact resV (by have hn : i = xs.length := (by simp [mkMonS_len] at hb; omega); subst hn; rw [List.take_length]; rfl)
theorem laws_heldEntryS_f (xs : List VEntry) (k : Int) (h1 : 0 ≤ k) (h2 : k + cntEntryS xs ≤ 1000000000000000) (hmx : SmEntryS xs) : Fun Tryz.prog 93 [L 4 ((mkEntryS k xs).map dEntry), I k] (RV (.int .i64 (k + cntEntryS xs))) := by
 refine Fun.w 49 Tryz.func93 fun w g0 _ => ?_
 refine loopW [] [] [] (fun (i : Nat) => [.set 0 (L 4 ((mkEntryS k xs).map dEntry)), .set 1 (I (k + cntFold cntEEntry (xs.take i))), .set 5 (I i)]) (fun (i : Nat) => []) (fun (i : Nat) => i ≤ xs.length) (fun (i : Nat) => xs.length - i) (0) (by simp) ?_
 refine ⟨(hdw (by repeat' first | exact rfl | refine And.intro ?_ ?_ | exact True.intro | (refine eqS ?_; simp [cntFold]))), fun i hyp N1 hN1 => ?_⟩
 have hyp : i ≤ xs.length := hyp
 refine len ?_
 refine spl (fun hb => ?_) (fun hb => ?_)
 ·have hi : i < xs.length := by simpa [mkEntryS_len] using hb
  have hlen : xs.length ≤ 2097152 := Nat.le_trans (show xs.length ≤ 1048576 from hmx) (by decide)
  obtain ⟨x, hx⟩ := at_of (xs := xs) (k := i) hi
  have hcs := cntFold_step (c := cntEEntry) hx
  have hc1 := cntFold_le cntEEntry_nn xs (i + 1)
  have hc0 := cntFold_nn cntEEntry_nn (xs.take i)
  have hcd : cntFold cntEEntry xs = cntEntryS xs := rfl
  have hg : (mkEntryS k xs)[i]? = some (mkEEntry (k + cntFold cntEEntry (xs.take i)) x) := mkFold_get mkEEntry cntEEntry k hx
  generalize hKI : cntFold cntEEntry (xs.take i) = m at *
  simp only [cntEEntry] at hcs
  refine ixm hg ?_
  refine spl (fun hb => ?_) (fun hb => ?_)
  ·(exfalso; first | omega | (simp [mkEEntry] at hb; done) | (simp [mkEEntry] at hb; omega) | (simp at hb; omega))
  ·refine rng ?_
   refine ixm hg ?_
   refine spl (fun hb => ?_) (fun hb => ?_)
   ·(exfalso; first | omega | (simp [mkEEntry] at hb; done) | (simp [mkEEntry] at hb; omega) | (simp at hb; omega))
   ·refine rng ?_
    refine ixm hg ?_
    refine spl (fun hb => ?_) (fun hb => ?_)
    ·(exfalso; first | omega | (simp [mkEEntry] at hb; done) | (simp [mkEEntry] at hb; omega) | (simp at hb; omega))
    ·refine rng ?_
     refine ixm hg ?_
     refine spl (fun hb => ?_) (fun hb => ?_)
     ·(exfalso; first | omega | (simp [mkEEntry] at hb; done) | (simp [mkEEntry] at hb; omega) | (simp at hb; omega))
     ·refine rng ?_
      refine rng ?_
      refine hN1 _ _ _ ?_
      refine nxt [] (i + 1) (by omega) (by repeat' first | exact rfl | refine And.intro ?_ ?_ | exact True.intro | (refine eqS ?_; first | exact congrArg (fun z : Int => (I z : TS)) (by rw [hcs]; omega) | exact congrArg (fun z : Int => (I z : TS)) (by omega)))
 ·refine hN1 _ _ _ ?_
  exact resV (by have hn : i = xs.length := (by simp [mkEntryS_len] at hb; omega); subst hn; rw [List.take_length]; rfl)
theorem laws_heldHost_f (x : VHost) (k : Int) (h1 : 0 ≤ k) (h2 : k + cntVHost x ≤ 1000000000000000) (hmx : SmHost x) : Fun Tryz.prog 21 [A (rHost (mkVHost k x)), I k] (RV (.int .i64 (k + cntIntSS x.Memory + cntMonS x.Mons + cntEntryS x.Buffer + cntEntryS x.IoBuffer))) := by
 refine Fun.w 30 Tryz.func21 fun w g0 _ => ?_
 have hq0 := cntIntSS_nn x.Memory
 have hq1 := cntMonS_nn x.Mons
 have hq2 := cntEntryS_nn x.Buffer
 have hq3 := cntEntryS_nn x.IoBuffer
 simp only [cntVHost] at h2
 refine callP (laws_heldIntSS_f x.Memory (k) (by omega) (by omega) (hmx.1)).k ?_
 refine spl (fun hb => ?_) (fun hb => ?_)
 ·(exfalso; simp at hb; omega)
 ·refine callP (laws_heldMonS_f x.Mons (k + cntIntSS x.Memory) (by omega) (by omega) (hmx.2.1)).k ?_
  refine spl (fun hb => ?_) (fun hb => ?_)
  ·(exfalso; simp at hb; omega)
  ·refine callP (laws_heldEntryS_f x.Buffer (k + cntIntSS x.Memory + cntMonS x.Mons) (by omega) (by omega) (hmx.2.2.1)).k ?_
   refine spl (fun hb => ?_) (fun hb => ?_)
   ·(exfalso; simp at hb; omega)
   ·refine callP (laws_heldEntryS_f x.IoBuffer (k + cntIntSS x.Memory + cntMonS x.Mons + cntEntryS x.Buffer) (by omega) (by omega) (hmx.2.2.2)).k ?_
    refine spl (fun hb => ?_) (fun hb => ?_)
    ·(exfalso; simp at hb; omega)
    ·exact rfl
end Go.Proofs.YteelmdpahpggkaaGreat.T

