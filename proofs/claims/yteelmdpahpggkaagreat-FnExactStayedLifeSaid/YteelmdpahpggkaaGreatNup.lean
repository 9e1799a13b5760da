
import Derived.Test.YteelmdpahpggkaaGreatHdp
import Derived.Test.YteelmdpahpggkaaGreatNtp
import Derived.Test.YteelmdpahpggkaaGreatHbp
import Derived.Test.YteelmdpahpggkaaGreatHep
namespace Go.Proofs.YteelmdpahpggkaaGreat.T
open Go
set_option linter.unusedVariables false
set_option linter.unusedSimpArgs false
set_option maxRecDepth 100000
set_option maxHeartbeats 1000000
theorem laws_heldIntS_f (xs : List Int) (k : Int) (h1 : 0 ≤ k) (h2 : k + cntIntS xs ≤ 1000000000000000) (hmx : SmIntS xs) : Fun Tryz.prog 65 [L 1 ((mkIntS k xs).map dInt), I k] (RV (.int .i64 (k + cntIntS xs))) := by
 refine Fun.w 21 Tryz.func65 fun w g0 _ => ?_
 refine loopW [] [] [] (fun (i : Nat) => [.set 0 (L 1 ((mkIntS k xs).map dInt)), .set 1 (I (k + cntFold cntEInt (xs.take i))), .set 5 (I i)]) (fun (i : Nat) => []) (fun (i : Nat) => i ≤ xs.length) (fun (i : Nat) => xs.length - i) (0) (by simp) ?_
 refine ⟨(hdw (by repeat' first | exact rfl | refine And.intro ?_ ?_ | exact True.intro | (refine eqS ?_; simp [cntFold]))), fun i hyp N1 hN1 => ?_⟩
 have hyp : i ≤ xs.length := hyp
 refine len ?_
 refine spl (fun hb => ?_) (fun hb => ?_)
 ·have hi : i < xs.length := by simpa [mkIntS_len] using hb
  have hlen : xs.length ≤ 2097152 := Nat.le_trans (show xs.length ≤ 1048576 from hmx) (by decide)
  obtain ⟨x, hx⟩ := at_of (xs := xs) (k := i) hi
  have hcs := cntFold_step (c := cntEInt) hx
  have hc1 := cntFold_le cntEInt_nn xs (i + 1)
  have hc0 := cntFold_nn cntEInt_nn (xs.take i)
  have hcd : cntFold cntEInt xs = cntIntS xs := rfl
  have hg : (mkIntS k xs)[i]? = some (mkEInt (k + cntFold cntEInt (xs.take i)) x) := mkFold_get mkEInt cntEInt k hx
  generalize hKI : cntFold cntEInt (xs.take i) = m at *
  simp only [cntEInt] at hcs
  refine ixm hg ?_
  refine spl (fun hb => ?_) (fun hb => ?_)
  ·(exfalso; first | omega | (simp [mkEInt] at hb; done) | (simp [mkEInt] at hb; omega) | (simp at hb; omega))
  ·refine rng ?_
   refine rng ?_
   refine hN1 _ _ _ ?_
   refine nxt [] (i + 1) (by omega) (by repeat' first | exact rfl | refine And.intro ?_ ?_ | exact True.intro | (refine eqS ?_; first | exact congrArg (fun z : Int => (I z : TS)) (by rw [hcs]; omega) | exact congrArg (fun z : Int => (I z : TS)) (by omega)))
 ·refine hN1 _ _ _ ?_
  exact resV (by have hn : i = xs.length := (by simp [mkIntS_len] at hb; omega); subst hn; rw [List.take_length]; rfl)
theorem laws_heldIntSS_f (xs : List (List Int)) (k : Int) (h1 : 0 ≤ k) (h2 : k + cntIntSS xs ≤ 1000000000000000) (hmx : SmIntSS xs) : Fun Tryz.prog 91 [L 1 ((mkIntSS k xs).map dIntS), I k] (RV (.int .i64 (k + cntIntSS xs))) := by
 refine Fun.w 21 Tryz.func91 fun w g0 _ => ?_
 refine loopW [] [] [] (fun (i : Nat) => [.set 0 (L 1 ((mkIntSS k xs).map dIntS)), .set 1 (I (k + cntFold cntIntS (xs.take i))), .set 5 (I i)]) (fun (i : Nat) => []) (fun (i : Nat) => i ≤ xs.length) (fun (i : Nat) => xs.length - i) (0) (by simp) ?_
 refine ⟨(hdw (by repeat' first | exact rfl | refine And.intro ?_ ?_ | exact True.intro | (refine eqS ?_; simp [cntFold]))), fun i hyp N1 hN1 => ?_⟩
 have hyp : i ≤ xs.length := hyp
 refine len ?_
 refine spl (fun hb => ?_) (fun hb => ?_)
 ·have hi : i < xs.length := by simpa [mkIntSS_len] using hb
  have hlen : xs.length ≤ 2097152 := Nat.le_trans (show xs.length ≤ 1048576 from hmx.1) (by decide)
  obtain ⟨x, hx⟩ := at_of (xs := xs) (k := i) hi
  have hcs := cntFold_step (c := cntIntS) hx
  have hc1 := cntFold_le cntIntS_nn xs (i + 1)
  have hc0 := cntFold_nn cntIntS_nn (xs.take i)
  have hcd : cntFold cntIntS xs = cntIntSS xs := rfl
  have hg : (mkIntSS k xs)[i]? = some (mkIntS (k + cntFold cntIntS (xs.take i)) x) := mkFold_get mkIntS cntIntS k hx
  have hsx : SmIntS x := hmx.2 x (List.mem_of_getElem? hx)
  have hn0 := cntIntS_nn x
  generalize hKI : cntFold cntIntS (xs.take i) = m at *
  skip
  refine ixm hg ?_
  refine callP (laws_heldIntS_f x ((k + m)) (by omega) (by omega) hsx).k ?_
  refine spl (fun hb => ?_) (fun hb => ?_)
  ·(exfalso; first | omega | (simp [mkIntS] at hb; done) | (simp [mkIntS] at hb; omega) | (simp at hb; omega))
  ·refine rng ?_
   refine hN1 _ _ _ ?_
   refine nxt [] (i + 1) (by omega) (by repeat' first | exact rfl | refine And.intro ?_ ?_ | exact True.intro | (refine eqS ?_; first | exact congrArg (fun z : Int => (I z : TS)) (by rw [hcs]; omega) | exact congrArg (fun z : Int => (I z : TS)) (by omega)))
 ·refine hN1 _ _ _ ?_
  exact resV (by have hn : i = xs.length := (by simp [mkIntSS_len] at hb; omega); subst hn; rw [List.take_length]; rfl)
theorem laws_heldSlotS_f (xs : List VSlot) (k : Int) (h1 : 0 ≤ k) (h2 : k + cntSlotS xs ≤ 1000000000000000) (hmx : SmSlotS xs) : Fun Tryz.prog 135 [L 2 ((mkSlotS k xs).map dSlot), I k] (RV (.int .i64 (k + cntSlotS xs))) := by
 refine Fun.w 31 Tryz.func135 fun w g0 _ => ?_
 refine loopW [] [] [] (fun (i : Nat) => [.set 0 (L 2 ((mkSlotS k xs).map dSlot)), .set 1 (I (k + cntFold cntESlot (xs.take i))), .set 5 (I i)]) (fun (i : Nat) => []) (fun (i : Nat) => i ≤ xs.length) (fun (i : Nat) => xs.length - i) (0) (by simp) ?_
 refine ⟨(hdw (by repeat' first | exact rfl | refine And.intro ?_ ?_ | exact True.intro | (refine eqS ?_; simp [cntFold]))), fun i hyp N1 hN1 => ?_⟩
 have hyp : i ≤ xs.length := hyp
 refine len ?_
 refine spl (fun hb => ?_) (fun hb => ?_)
 ·have hi : i < xs.length := by simpa [mkSlotS_len] using hb
  have hlen : xs.length ≤ 2097152 := Nat.le_trans (show xs.length ≤ 1048576 from hmx) (by decide)
  obtain ⟨x, hx⟩ := at_of (xs := xs) (k := i) hi
  have hcs := cntFold_step (c := cntESlot) hx
  have hc1 := cntFold_le cntESlot_nn xs (i + 1)
  have hc0 := cntFold_nn cntESlot_nn (xs.take i)
  have hcd : cntFold cntESlot xs = cntSlotS xs := rfl
  have hg : (mkSlotS k xs)[i]? = some (mkESlot (k + cntFold cntESlot (xs.take i)) x) := mkFold_get mkESlot cntESlot k hx
  generalize hKI : cntFold cntESlot (xs.take i) = m at *
  simp only [cntESlot] at hcs
  refine ixm hg ?_
  refine spl (fun hb => ?_) (fun hb => ?_)
  ·(exfalso; first | omega | (simp [mkESlot] at hb; done) | (simp [mkESlot] at hb; omega) | (simp at hb; omega))
  ·refine rng ?_
   refine ixm hg ?_
   refine spl (fun hb => ?_) (fun hb => ?_)
   ·(exfalso; first | omega | (simp [mkESlot] at hb; done) | (simp [mkESlot] at hb; omega) | (simp at hb; omega))
   ·refine rng ?_
    refine rng ?_
    refine hN1 _ _ _ ?_
    refine nxt [] (i + 1) (by omega) (by repeat' first | exact rfl | refine And.intro ?_ ?_ | exact True.intro | (refine eqS ?_; first | exact congrArg (fun z : Int => (I z : TS)) (by rw [hcs]; omega) | exact congrArg (fun z : Int => (I z : TS)) (by omega)))
 ·refine hN1 _ _ _ ?_
  exact resV (by have hn : i = xs.length := (by simp [mkSlotS_len] at hb; omega); subst hn; rw [List.take_length]; rfl)
theorem laws_heldInsS_f (xs : List VIns) (k : Int) (h1 : 0 ≤ k) (h2 : k + cntInsS xs ≤ 1000000000000000) (hmx : SmInsS xs) : Fun Tryz.prog 223 [L 2 ((mkInsS k xs).map dIns), I k] (RV (.int .i64 (k + cntInsS xs))) := by
 refine Fun.w 31 Tryz.func223 fun w g0 _ => ?_
 refine loopW [] [] [] (fun (i : Nat) => [.set 0 (L 2 ((mkInsS k xs).map dIns)), .set 1 (I (k + cntFold cntEIns (xs.take i))), .set 5 (I i)]) (fun (i : Nat) => []) (fun (i : Nat) => i ≤ xs.length) (fun (i : Nat) => xs.length - i) (0) (by simp) ?_
 refine ⟨(hdw (by repeat' first | exact rfl | refine And.intro ?_ ?_ | exact True.intro | (refine eqS ?_; simp [cntFold]))), fun i hyp N1 hN1 => ?_⟩
 have hyp : i ≤ xs.length := hyp
 refine len ?_
 refine spl (fun hb => ?_) (fun hb => ?_)
 ·have hi : i < xs.length := by simpa [mkInsS_len] using hb
  have hlen : xs.length ≤ 2097152 := Nat.le_trans (show xs.length ≤ 1048576 from hmx) (by decide)
  obtain ⟨x, hx⟩ := at_of (xs := xs) (k := i) hi
  have hcs := cntFold_step (c := cntEIns) hx
  have hc1 := cntFold_le cntEIns_nn xs (i + 1)
  have hc0 := cntFold_nn cntEIns_nn (xs.take i)
  have hcd : cntFold cntEIns xs = cntInsS xs := rfl
  have hg : (mkInsS k xs)[i]? = some (mkEIns (k + cntFold cntEIns (xs.take i)) x) := mkFold_get mkEIns cntEIns k hx
  generalize hKI : cntFold cntEIns (xs.take i) = m at *
  simp only [cntEIns] at hcs
  refine ixm hg ?_
  refine spl (fun hb => ?_) (fun hb => ?_)
  ·(exfalso; first | omega | (simp [mkEIns] at hb; done) | (simp [mkEIns] at hb; omega) | (simp at hb; omega))
  ·refine rng ?_
   refine ixm hg ?_
   refine spl (fun hb => ?_) (fun hb => ?_)
   ·(exfalso; first | omega | (simp [mkEIns] at hb; done) | (simp [mkEIns] at hb; omega) | (simp at hb; omega))
   ·refine rng ?_
    refine rng ?_
    refine hN1 _ _ _ ?_
    refine nxt [] (i + 1) (by omega) (by repeat' first | exact rfl | refine And.intro ?_ ?_ | exact True.intro | (refine eqS ?_; first | exact congrArg (fun z : Int => (I z : TS)) (by rw [hcs]; omega) | exact congrArg (fun z : Int => (I z : TS)) (by omega)))
 ·refine hN1 _ _ _ ?_
  exact resV (by have hn : i = xs.length := (by simp [mkInsS_len] at hb; omega); subst hn; rw [List.take_length]; rfl)
theorem laws_heldGuestS_f (xs : List VGuest) (k : Int) (h1 : 0 ≤ k) (h2 : k + cntGuestS xs ≤ 1000000000000000) (hmx : SmGuestS xs) : Fun Tryz.prog 137 [L 15 ((mkGuestS k xs).map dGuest), I k] (RV (.int .i64 (k + cntGuestS xs))) := by
 refine Fun.w 161 Tryz.func137 fun w g0 _ => ?_
 refine loopW [] [] [] (fun (i : Nat) => [.set 0 (L 15 ((mkGuestS k xs).map dGuest)), .set 1 (I (k + cntFold cntEGuest (xs.take i))), .set 5 (I i)]) (fun (i : Nat) => []) (fun (i : Nat) => i ≤ xs.length) (fun (i : Nat) => xs.length - i) (0) (by simp) ?_
 refine ⟨(hdw (by repeat' first | exact rfl | refine And.intro ?_ ?_ | exact True.intro | (refine eqS ?_; simp [cntFold]))), fun i hyp N1 hN1 => ?_⟩
 have hyp : i ≤ xs.length := hyp
 refine len ?_
 refine spl (fun hb => ?_) (fun hb => ?_)
 ·have hi : i < xs.length := by simpa [mkGuestS_len] using hb
  have hlen : xs.length ≤ 2097152 := Nat.le_trans (show xs.length ≤ 1048576 from hmx.1) (by decide)
  obtain ⟨x, hx⟩ := at_of (xs := xs) (k := i) hi
  have hcs := cntFold_step (c := cntEGuest) hx
  have hc1 := cntFold_le cntEGuest_nn xs (i + 1)
  have hc0 := cntFold_nn cntEGuest_nn (xs.take i)
  have hcd : cntFold cntEGuest xs = cntGuestS xs := rfl
  have hg : (mkGuestS k xs)[i]? = some (mkEGuest (k + cntFold cntEGuest (xs.take i)) x) := mkFold_get mkEGuest cntEGuest k hx
  have hsx : SmGuest x := hmx.2 x (List.mem_of_getElem? hx)
  have hn0 := cntInsS_nn x.Prog
  have hn1 := cntSlotS_nn x.Written
  have hn2 := cntSlotS_nn x.Live
  have hn3 := cntIntS_nn x.Seen
  generalize hKI : cntFold cntEGuest (xs.take i) = m at *
  simp only [cntEGuest] at hcs
  refine ixm hg ?_
  refine callP (laws_heldInsS_f x.Prog ((k + m)) (by omega) (by omega) (hsx.1)).k ?_
  refine spl (fun hb => ?_) (fun hb => ?_)
  ·(exfalso; first | omega | (simp [mkEGuest] at hb; done) | (simp [mkEGuest] at hb; omega) | (simp at hb; omega))
  ·refine ixm hg ?_
   refine spl (fun hb => ?_) (fun hb => ?_)
   ·(exfalso; first | omega | (simp [mkEGuest] at hb; done) | (simp [mkEGuest] at hb; omega) | (simp at hb; omega))
   ·refine rng ?_
    refine ixm hg ?_
    refine spl (fun hb => ?_) (fun hb => ?_)
    ·(exfalso; first | omega | (simp [mkEGuest] at hb; done) | (simp [mkEGuest] at hb; omega) | (simp at hb; omega))
    ·refine rng ?_
     refine ixm hg ?_
     refine callP (laws_heldSlotS_f x.Written ((k + m) + cntInsS x.Prog + 1 + 1) (by omega) (by omega) (hsx.2.1)).k ?_
     refine spl (fun hb => ?_) (fun hb => ?_)
     ·(exfalso; first | omega | (simp [mkEGuest] at hb; done) | (simp [mkEGuest] at hb; omega) | (simp at hb; omega))
     ·refine ixm hg ?_
      refine callP (laws_heldSlotS_f x.Live ((k + m) + cntInsS x.Prog + 1 + 1 + cntSlotS x.Written) (by omega) (by omega) (hsx.2.2.1)).k ?_
      refine spl (fun hb => ?_) (fun hb => ?_)
      ·(exfalso; first | omega | (simp [mkEGuest] at hb; done) | (simp [mkEGuest] at hb; omega) | (simp at hb; omega))
      ·refine ixm hg ?_
       refine spl (fun hb => ?_) (fun hb => ?_)
       ·(exfalso; first | omega | (simp [mkEGuest] at hb; done) | (simp [mkEGuest] at hb; omega) | (simp at hb; omega))
       ·refine rng ?_
        refine ixm hg ?_
        refine spl (fun hb => ?_) (fun hb => ?_)
        ·(exfalso; first | omega | (simp [mkEGuest] at hb; done) | (simp [mkEGuest] at hb; omega) | (simp at hb; omega))
        ·refine rng ?_
         refine ixm hg ?_
         refine nz ?_
         refine spl (fun hb => ?_) (fun hb => ?_)
         ·(exfalso; first | omega | (simp [mkEGuest] at hb; done) | (simp [mkEGuest] at hb; omega) | (simp at hb; omega))
         ·refine rng ?_
          refine ixm hg ?_
          refine spl (fun hb => ?_) (fun hb => ?_)
          ·(exfalso; first | omega | (simp [mkEGuest] at hb; done) | (simp [mkEGuest] at hb; omega) | (simp at hb; omega))
          ·refine rng ?_
           refine ixm hg ?_
           refine spl (fun hb => ?_) (fun hb => ?_)
           ·(exfalso; first | omega | (simp [mkEGuest] at hb; done) | (simp [mkEGuest] at hb; omega) | (simp at hb; omega))
           ·refine rng ?_
            refine ixm hg ?_
            refine spl (fun hb => ?_) (fun hb => ?_)
            ·(exfalso; first | omega | (simp [mkEGuest] at hb; done) | (simp [mkEGuest] at hb; omega) | (simp at hb; omega))
            ·refine rng ?_
             refine ixm hg ?_
             refine nz ?_
             refine spl (fun hb => ?_) (fun hb => ?_)
             ·(exfalso; first | omega | (simp [mkEGuest] at hb; done) | (simp [mkEGuest] at hb; omega) | (simp at hb; omega))
             ·refine rng ?_
              refine ixm hg ?_
              refine spl (fun hb => ?_) (fun hb => ?_)
              ·(exfalso; first | omega | (simp [mkEGuest] at hb; done) | (simp [mkEGuest] at hb; omega) | (simp at hb; omega))
              ·refine rng ?_
               refine ixm hg ?_
               refine nz ?_
               refine spl (fun hb => ?_) (fun hb => ?_)
               ·(exfalso; first | omega | (simp [mkEGuest] at hb; done) | (simp [mkEGuest] at hb; omega) | (simp at hb; omega))
               ·refine rng ?_
                refine ixm hg ?_
                refine callP (laws_heldIntS_f x.Seen ((k + m) + cntInsS x.Prog + 1 + 1 + cntSlotS x.Written + cntSlotS x.Live + 1 + 1 + 1 + 1 + 1 + 1 + 1 + 1 + 1) (by omega) (by omega) (hsx.2.2.2)).k ?_
                refine spl (fun hb => ?_) (fun hb => ?_)
                ·(exfalso; first | omega | (simp [mkEGuest] at hb; done) | (simp [mkEGuest] at hb; omega) | (simp at hb; omega))
                ·refine rng ?_
                 refine hN1 _ _ _ ?_
                 refine nxt [] (i + 1) (by omega) (by repeat' first | exact rfl | refine And.intro ?_ ?_ | exact True.intro | (refine eqS ?_; first | exact congrArg (fun z : Int => (I z : TS)) (by rw [hcs]; omega) | exact congrArg (fun z : Int => (I z : TS)) (by omega)))
 ·refine hN1 _ _ _ ?_
  exact resV (by have hn : i = xs.length := (by simp [mkGuestS_len] at hb; omega); subst hn; rw [List.take_length]; rfl)
theorem laws_heldBareS_f (xs : List VBare) (k : Int) (h1 : 0 ≤ k) (h2 : k + cntBareS xs ≤ 1000000000000000) (hmx : SmBareS xs) : Fun Tryz.prog 61 [L 4 ((mkBareS k xs).map dBare), I k] (RV (.int .i64 (k + cntBareS xs))) := by
 refine Fun.w 49 Tryz.func61 fun w g0 _ => ?_
 refine loopW [] [] [] (fun (i : Nat) => [.set 0 (L 4 ((mkBareS k xs).map dBare)), .set 1 (I (k + cntFold cntEBare (xs.take i))), .set 5 (I i)]) (fun (i : Nat) => []) (fun (i : Nat) => i ≤ xs.length) (fun (i : Nat) => xs.length - i) (0) (by simp) ?_
 refine ⟨(hdw (by repeat' first | exact rfl | refine And.intro ?_ ?_ | exact True.intro | (refine eqS ?_; simp [cntFold]))), fun i hyp N1 hN1 => ?_⟩
 have hyp : i ≤ xs.length := hyp
 refine len ?_
 refine spl (fun hb => ?_) (fun hb => ?_)
 ·have hi : i < xs.length := by simpa [mkBareS_len] using hb
  have hlen : xs.length ≤ 2097152 := Nat.le_trans (show xs.length ≤ 1048576 from hmx.1) (by decide)
  obtain ⟨x, hx⟩ := at_of (xs := xs) (k := i) hi
  have hcs := cntFold_step (c := cntEBare) hx
  have hc1 := cntFold_le cntEBare_nn xs (i + 1)
  have hc0 := cntFold_nn cntEBare_nn (xs.take i)
  have hcd : cntFold cntEBare xs = cntBareS xs := rfl
  have hg : (mkBareS k xs)[i]? = some (mkEBare (k + cntFold cntEBare (xs.take i)) x) := mkFold_get mkEBare cntEBare k hx
  have hsx : SmBare x := hmx.2 x (List.mem_of_getElem? hx)
  have hn0 := cntIntSS_nn x.Memory
  have hn1 := cntGuestS_nn x.Guests
  have hn2 := cntIntS_nn x.Outs
  generalize hKI : cntFold cntEBare (xs.take i) = m at *
  simp only [cntEBare] at hcs
  refine ixm hg ?_
  refine callP (laws_heldIntSS_f x.Memory ((k + m)) (by omega) (by omega) (hsx.1)).k ?_
  refine spl (fun hb => ?_) (fun hb => ?_)
  ·(exfalso; first | omega | (simp [mkEBare] at hb; done) | (simp [mkEBare] at hb; omega) | (simp at hb; omega))
  ·refine ixm hg ?_
   refine callP (laws_heldGuestS_f x.Guests ((k + m) + cntIntSS x.Memory) (by omega) (by omega) (hsx.2.1)).k ?_
   refine spl (fun hb => ?_) (fun hb => ?_)
   ·(exfalso; first | omega | (simp [mkEBare] at hb; done) | (simp [mkEBare] at hb; omega) | (simp at hb; omega))
   ·refine ixm hg ?_
    refine callP (laws_heldIntS_f x.Outs ((k + m) + cntIntSS x.Memory + cntGuestS x.Guests) (by omega) (by omega) (hsx.2.2)).k ?_
    refine spl (fun hb => ?_) (fun hb => ?_)
    ·(exfalso; first | omega | (simp [mkEBare] at hb; done) | (simp [mkEBare] at hb; omega) | (simp at hb; omega))
    ·refine ixm hg ?_
     refine spl (fun hb => ?_) (fun hb => ?_)
     ·(exfalso; first | omega | (simp [mkEBare] at hb; done) | (simp [mkEBare] at hb; omega) | (simp at hb; omega))
     ·refine rng ?_
      refine rng ?_
      refine hN1 _ _ _ ?_
      refine nxt [] (i + 1) (by omega) (by repeat' first | exact rfl | refine And.intro ?_ ?_ | exact True.intro | (refine eqS ?_; first | exact congrArg (fun z : Int => (I z : TS)) (by rw [hcs]; omega) | exact congrArg (fun z : Int => (I z : TS)) (by omega)))
 ·refine hN1 _ _ _ ?_
  exact resV (by have hn : i = xs.length := (by simp [mkBareS_len] at hb; omega); subst hn; rw [List.take_length]; rfl)
theorem laws_heldToldS_f (xs : List VTold) (k : Int) (h1 : 0 ≤ k) (h2 : k + cntToldS xs ≤ 1000000000000000) (hmx : SmToldS xs) : Fun Tryz.prog 62 [L 2 ((mkToldS k xs).map dTold), I k] (RV (.int .i64 (k + cntToldS xs))) := by
 refine Fun.w 33 Tryz.func62 fun w g0 _ => ?_
 refine loopW [] [] [] (fun (i : Nat) => [.set 0 (L 2 ((mkToldS k xs).map dTold)), .set 1 (I (k + cntFold cntETold (xs.take i))), .set 5 (I i)]) (fun (i : Nat) => []) (fun (i : Nat) => i ≤ xs.length) (fun (i : Nat) => xs.length - i) (0) (by simp) ?_
 refine ⟨(hdw (by repeat' first | exact rfl | refine And.intro ?_ ?_ | exact True.intro | (refine eqS ?_; simp [cntFold]))), fun i hyp N1 hN1 => ?_⟩
 have hyp : i ≤ xs.length := hyp
 refine len ?_
 refine spl (fun hb => ?_) (fun hb => ?_)
 ·have hi : i < xs.length := by simpa [mkToldS_len] using hb
  have hlen : xs.length ≤ 2097152 := Nat.le_trans (show xs.length ≤ 1048576 from hmx) (by decide)
  obtain ⟨x, hx⟩ := at_of (xs := xs) (k := i) hi
  have hcs := cntFold_step (c := cntETold) hx
  have hc1 := cntFold_le cntETold_nn xs (i + 1)
  have hc0 := cntFold_nn cntETold_nn (xs.take i)
  have hcd : cntFold cntETold xs = cntToldS xs := rfl
  have hg : (mkToldS k xs)[i]? = some (mkETold (k + cntFold cntETold (xs.take i)) x) := mkFold_get mkETold cntETold k hx
  generalize hKI : cntFold cntETold (xs.take i) = m at *
  simp only [cntETold] at hcs
  refine ixm hg ?_
  refine nz ?_
  refine spl (fun hb => ?_) (fun hb => ?_)
  ·(exfalso; first | omega | (simp [mkETold] at hb; done) | (simp [mkETold] at hb; omega) | (simp at hb; omega))
  ·refine rng ?_
   refine ixm hg ?_
   refine spl (fun hb => ?_) (fun hb => ?_)
   ·(exfalso; first | omega | (simp [mkETold] at hb; done) | (simp [mkETold] at hb; omega) | (simp at hb; omega))
   ·refine rng ?_
    refine rng ?_
    refine hN1 _ _ _ ?_
    refine nxt [] (i + 1) (by omega) (by repeat' first | exact rfl | refine And.intro ?_ ?_ | exact True.intro | (refine eqS ?_; first | exact congrArg (fun z : Int => (I z : TS)) (by rw [hcs]; omega) | exact congrArg (fun z : Int => (I z : TS)) (by omega)))
 ·refine hN1 _ _ _ ?_
  exact resV (by have hn : i = xs.length := (by simp [mkToldS_len] at hb; omega); subst hn; rw [List.take_length]; rfl)
end Go.Proofs.YteelmdpahpggkaaGreat.T

namespace Go.Proofs.YteelmdpahpggkaaGreat.T
open Go
set_option linter.unusedVariables false
set_option linter.unusedSimpArgs false
set_option maxRecDepth 100000
set_option maxHeartbeats 8000000
theorem cntFold_most {α : Type} {c : α → Int} {N : Int} : ∀ {xs : List α}, (∀ x ∈ xs, c x ≤ N) → cntFold c xs ≤ N * xs.length
 | [], _ => by simp [cntFold]
 | x :: l, h => by
  have h1 := h x List.mem_cons_self
  have h2 := cntFold_most (xs := l) fun y hy => h y (List.mem_cons_of_mem _ hy)
  simp only [cntFold, List.length_cons]
  have h3 : N * ((l.length + 1 : Nat) : Int) = N * l.length + N := by rw [Int.natCast_add, Int.mul_add]; simp
  omega
theorem cntFold_cap {α : Type} {c : α → Int} {N : Int} {xs : List α} (hN : 0 ≤ N) (h : ∀ x ∈ xs, c x ≤ N) (hl : xs.length ≤ 1048576) : cntFold c xs ≤ N * 1048576 :=
 Int.le_trans (cntFold_most h) (Int.mul_le_mul_of_nonneg_left (by omega) hN)
theorem cap_IntS {xs : List Int} (h : SmIntS xs) : cntIntS xs ≤ 1048576 := by
 have := cntFold_cap (c := cntEInt) (N := 1) (by decide) (fun x _ => by simp [cntEInt]) h
 unfold cntIntS
 omega
theorem cap_SlotS {xs : List VSlot} (h : SmSlotS xs) : cntSlotS xs ≤ 2097152 := by
 have := cntFold_cap (c := cntESlot) (N := 2) (by decide) (fun x _ => by simp [cntESlot]) h
 unfold cntSlotS
 omega
theorem cap_InsS {xs : List VIns} (h : SmInsS xs) : cntInsS xs ≤ 2097152 := by
 have := cntFold_cap (c := cntEIns) (N := 2) (by decide) (fun x _ => by simp [cntEIns]) h
 unfold cntInsS
 omega
theorem cap_IntSS {xs : List (List Int)} (h : SmIntSS xs) : cntIntSS xs ≤ 1099511627776 := by
 have := cntFold_cap (c := cntEIntS) (N := 1048576) (by decide) (fun x hx => cap_IntS (h.2 x hx)) h.1
 unfold cntIntSS
 omega
theorem cap_Guest {x : VGuest} (h : SmGuest x) : cntEGuest x ≤ 8388608 := by
 have h1 := cap_InsS h.1
 have h2 := cap_SlotS h.2.1
 have h3 := cap_SlotS h.2.2.1
 have h4 := cap_IntS h.2.2.2
 unfold cntEGuest
 omega
theorem cap_GuestS {xs : List VGuest} (h : SmGuestS xs) : cntGuestS xs ≤ 8796093022208 := by
 have := cntFold_cap (c := cntEGuest) (N := 8388608) (by decide) (fun x hx => cap_Guest (h.2 x hx)) h.1
 unfold cntGuestS
 omega
end Go.Proofs.YteelmdpahpggkaaGreat.T

