
import Derived.Test.YteelmdpahpggkaaGreatHap
namespace Go.Proofs.YteelmdpahpggkaaGreat.T
open Go
set_option linter.unusedVariables false
set_option linter.unusedSimpArgs false
set_option maxRecDepth 100000
set_option maxHeartbeats 1000000
theorem laws_toIntS_f (xs : List Int) (hmx : SmIntS xs) : Fun Tryz.prog 43 [L 1 (xs.map dInt)] (RL 1 (xs.map dInt)) := by
 refine Fun.w 22 Tryz.func43 fun w g0 _ => ?_
 have hlen : xs.length ≤ 1048576 := hmx
 refine len ?_
 refine mkn ?_
 refine loopW [] [] [] (fun (k : Nat) => [.set 0 (L 1 (xs.map dInt)), .set 3 (.one (.c (.ref ⟨7, [], 0⟩))), .set 4 (I k)]) (fun (k : Nat) => [(7, ⟨false, [.own (.sl 1 (fill dInt (dInt 0) xs k))]⟩)]) (fun (k : Nat) => k ≤ xs.length) (fun (k : Nat) => xs.length - k) (0) (by simp) ?_
 refine ⟨(hdw (by repeat' first | exact rfl | refine And.intro ?_ ?_ | exact True.intro | (refine eqS ?_; rw [← fill_zero]))), fun k hyp N1 hN1 => ?_⟩
 have hyp : k ≤ xs.length := hyp
 refine len ?_
 refine spl (fun hb => ?_) (fun hb => ?_)
 ·have hk : k < xs.length := by simpa using hb
  obtain ⟨x, hx⟩ := at_of (xs := xs) (k := k) hk
  have hg := fill_get (f := dInt) (z := (dInt 0)) hk
  have hs := fill_set (f := dInt) (z := (dInt 0)) hx
  refine ixm hx ?_
  refine bnd (?_) (by rw [fill_len]; omega)
  refine ixn hg ?_
  refine rng ?_
  refine hN1 _ _ _ ?_
  refine nxt [] (k + 1) (by omega) (by repeat' first | exact rfl | refine And.intro ?_ ?_ | exact True.intro | (refine eqS ?_; first | (rw [← hs]) | (simp only [← hs])))
 ·refine hN1 _ _ _ ?_
  exact by simp at hb; rw [← fill_all (f := dInt) (z := (dInt 0)) (k := k) (by omega)]; rfl
theorem laws_toIntSS_f (xs : List (List Int)) (hmx : SmIntSS xs) : Fun Tryz.prog 106 [L 1 (xs.map dIntS)] (RL 1 (xs.map dIntS)) := by
 refine Fun.w 23 Tryz.func106 fun w g0 _ => ?_
 have hlen : xs.length ≤ 1048576 := hmx.1
 refine len ?_
 refine mkn ?_
 refine loopW [] [] [] (fun (k : Nat) => [.set 0 (L 1 (xs.map dIntS)), .set 3 (.one (.c (.ref ⟨7, [], 0⟩))), .set 4 (I k)]) (fun (k : Nat) => [(7, ⟨false, [.own (.sl 1 (fill dIntS (dIntS []) xs k))]⟩)]) (fun (k : Nat) => k ≤ xs.length) (fun (k : Nat) => xs.length - k) (0) (by simp) ?_
 refine ⟨(hdw (by repeat' first | exact rfl | refine And.intro ?_ ?_ | exact True.intro | (refine eqS ?_; rw [← fill_zero]))), fun k hyp N1 hN1 => ?_⟩
 have hyp : k ≤ xs.length := hyp
 refine len ?_
 refine spl (fun hb => ?_) (fun hb => ?_)
 ·have hk : k < xs.length := by simpa using hb
  obtain ⟨x, hx⟩ := at_of (xs := xs) (k := k) hk
  have hsx : SmIntS x := hmx.2 x (List.mem_of_getElem? hx)
  have hg := fill_get (f := dIntS) (z := (dIntS [])) hk
  have hs := fill_set (f := dIntS) (z := (dIntS [])) hx
  refine ixm hx ?_
  refine callL (laws_toIntS_f x hsx).k ?_
  refine bnd (?_) (by rw [fill_len]; omega)
  refine ixn hg ?_
  refine rng ?_
  refine hN1 _ _ _ ?_
  refine nxt [] (k + 1) (by omega) (by repeat' first | exact rfl | refine And.intro ?_ ?_ | exact True.intro | (refine eqS ?_; first | (rw [← hs]) | (simp only [← hs])))
 ·refine hN1 _ _ _ ?_
  exact by simp at hb; rw [← fill_all (f := dIntS) (z := (dIntS [])) (k := k) (by omega)]; rfl
theorem laws_toSlot_f (x : VSlot) : Fun Tryz.prog 201 [A (rSlot x)] (RP (A (rSlot x))) := by
 refine Fun.w 11 Tryz.func201 fun w g0 _ => ?_
 exact rfl
theorem laws_toSlotS_f (xs : List VSlot) (hmx : SmSlotS xs) : Fun Tryz.prog 109 [L 2 (xs.map dSlot)] (RL 2 (xs.map dSlot)) := by
 refine Fun.w 23 Tryz.func109 fun w g0 _ => ?_
 have hlen : xs.length ≤ 1048576 := hmx
 refine len ?_
 refine mkn ?_
 refine loopW [] [] [] (fun (k : Nat) => [.set 0 (L 2 (xs.map dSlot)), .set 3 (.one (.c (.ref ⟨7, [], 0⟩))), .set 4 (I k)]) (fun (k : Nat) => [(7, ⟨false, [.own (.sl 2 (fill dSlot (dSlot (VSlot.mk 0 0)) xs k))]⟩)]) (fun (k : Nat) => k ≤ xs.length) (fun (k : Nat) => xs.length - k) (0) (by simp) ?_
 refine ⟨(hdw (by repeat' first | exact rfl | refine And.intro ?_ ?_ | exact True.intro | (refine eqS ?_; rw [← fill_zero]))), fun k hyp N1 hN1 => ?_⟩
 have hyp : k ≤ xs.length := hyp
 refine len ?_
 refine spl (fun hb => ?_) (fun hb => ?_)
 ·have hk : k < xs.length := by simpa using hb
  obtain ⟨x, hx⟩ := at_of (xs := xs) (k := k) hk
  have hg := fill_get (f := dSlot) (z := (dSlot (VSlot.mk 0 0))) hk
  have hs := fill_set (f := dSlot) (z := (dSlot (VSlot.mk 0 0))) hx
  refine ixm hx ?_
  refine callP (laws_toSlot_f x).k ?_
  refine bnd (?_) (by rw [fill_len]; omega)
  refine ixn hg ?_
  refine rng ?_
  refine hN1 _ _ _ ?_
  refine nxt [] (k + 1) (by omega) (by repeat' first | exact rfl | refine And.intro ?_ ?_ | exact True.intro | (refine eqS ?_; first | (rw [← hs]) | (simp only [← hs])))
 ·refine hN1 _ _ _ ?_
  exact by simp at hb; rw [← fill_all (f := dSlot) (z := (dSlot (VSlot.mk 0 0))) (k := k) (by omega)]; rfl
theorem laws_toBoolS_f (xs : List Bool) (hmx : SmBoolS xs) : Fun Tryz.prog 110 [L 1 (xs.map dBool)] (RL 1 (xs.map dBool)) := by
 refine Fun.w 22 Tryz.func110 fun w g0 _ => ?_
 have hlen : xs.length ≤ 1048576 := hmx
 refine len ?_
 refine mkn ?_
 refine loopW [] [] [] (fun (k : Nat) => [.set 0 (L 1 (xs.map dBool)), .set 3 (.one (.c (.ref ⟨7, [], 0⟩))), .set 4 (I k)]) (fun (k : Nat) => [(7, ⟨false, [.own (.sl 1 (fill dBool (dBool false) xs k))]⟩)]) (fun (k : Nat) => k ≤ xs.length) (fun (k : Nat) => xs.length - k) (0) (by simp) ?_
 refine ⟨(hdw (by repeat' first | exact rfl | refine And.intro ?_ ?_ | exact True.intro | (refine eqS ?_; rw [← fill_zero]))), fun k hyp N1 hN1 => ?_⟩
 have hyp : k ≤ xs.length := hyp
 refine len ?_
 refine spl (fun hb => ?_) (fun hb => ?_)
 ·have hk : k < xs.length := by simpa using hb
  obtain ⟨x, hx⟩ := at_of (xs := xs) (k := k) hk
  have hg := fill_get (f := dBool) (z := (dBool false)) hk
  have hs := fill_set (f := dBool) (z := (dBool false)) hx
  refine ixm hx ?_
  refine bnd (?_) (by rw [fill_len]; omega)
  refine ixn hg ?_
  refine rng ?_
  refine hN1 _ _ _ ?_
  refine nxt [] (k + 1) (by omega) (by repeat' first | exact rfl | refine And.intro ?_ ?_ | exact True.intro | (refine eqS ?_; first | (rw [← hs]) | (simp only [← hs])))
 ·refine hN1 _ _ _ ?_
  exact by simp at hb; rw [← fill_all (f := dBool) (z := (dBool false)) (k := k) (by omega)]; rfl
theorem laws_toIns_f (x : VIns) : Fun Tryz.prog 336 [A (rIns x)] (RP (A (rIns x))) := by
 refine Fun.w 11 Tryz.func336 fun w g0 _ => ?_
 exact rfl
theorem laws_toInsS_f (xs : List VIns) (hmx : SmInsS xs) : Fun Tryz.prog 247 [L 2 (xs.map dIns)] (RL 2 (xs.map dIns)) := by
 refine Fun.w 23 Tryz.func247 fun w g0 _ => ?_
 have hlen : xs.length ≤ 1048576 := hmx
 refine len ?_
 refine mkn ?_
 refine loopW [] [] [] (fun (k : Nat) => [.set 0 (L 2 (xs.map dIns)), .set 3 (.one (.c (.ref ⟨7, [], 0⟩))), .set 4 (I k)]) (fun (k : Nat) => [(7, ⟨false, [.own (.sl 2 (fill dIns (dIns (VIns.mk 0 0)) xs k))]⟩)]) (fun (k : Nat) => k ≤ xs.length) (fun (k : Nat) => xs.length - k) (0) (by simp) ?_
 refine ⟨(hdw (by repeat' first | exact rfl | refine And.intro ?_ ?_ | exact True.intro | (refine eqS ?_; rw [← fill_zero]))), fun k hyp N1 hN1 => ?_⟩
 have hyp : k ≤ xs.length := hyp
 refine len ?_
 refine spl (fun hb => ?_) (fun hb => ?_)
 ·have hk : k < xs.length := by simpa using hb
  obtain ⟨x, hx⟩ := at_of (xs := xs) (k := k) hk
  have hg := fill_get (f := dIns) (z := (dIns (VIns.mk 0 0))) hk
  have hs := fill_set (f := dIns) (z := (dIns (VIns.mk 0 0))) hx
  refine ixm hx ?_
  refine callP (laws_toIns_f x).k ?_
  refine bnd (?_) (by rw [fill_len]; omega)
  refine ixn hg ?_
  refine rng ?_
  refine hN1 _ _ _ ?_
  refine nxt [] (k + 1) (by omega) (by repeat' first | exact rfl | refine And.intro ?_ ?_ | exact True.intro | (refine eqS ?_; first | (rw [← hs]) | (simp only [← hs])))
 ·refine hN1 _ _ _ ?_
  exact by simp at hb; rw [← fill_all (f := dIns) (z := (dIns (VIns.mk 0 0))) (k := k) (by omega)]; rfl
theorem laws_toCtl_f (x : VCtl) : Fun Tryz.prog 295 [A (rCtl x)] (RP (A (rCtl x))) := by
 refine Fun.w 14 Tryz.func295 fun w g0 _ => ?_
 exact rfl
theorem laws_toExit_f (x : VExit) : Fun Tryz.prog 296 [A (rExit x)] (RP (A (rExit x))) := by
 refine Fun.w 17 Tryz.func296 fun w g0 _ => ?_
 exact rfl
theorem laws_toGuest_f (x : VGuest) (hmx : SmGuest x) : Fun Tryz.prog 202 [A (rGuest x)] (RG [.a (rGuest x)]) := by
 refine Fun.w 41 Tryz.func202 fun w g0 _ => ?_
 refine callL (laws_toInsS_f x.Prog hmx.1).k ?_
 refine callL (laws_toSlotS_f x.Written hmx.2.1).k ?_
 refine callL (laws_toSlotS_f x.Live hmx.2.2.1).k ?_
 refine callP (laws_toCtl_f x.Ctl).k ?_
 refine callP (laws_toExit_f x.Exit).k ?_
 refine callL (laws_toIntS_f x.Seen hmx.2.2.2).k ?_
 exact rfl
theorem laws_toGuestS_f (xs : List VGuest) (hmx : SmGuestS xs) : Fun Tryz.prog 111 [L 15 (xs.map dGuest)] (RL 15 (xs.map dGuest)) := by
 refine Fun.w 23 Tryz.func111 fun w g0 _ => ?_
 have hlen : xs.length ≤ 1048576 := hmx.1
 refine len ?_
 refine mkn ?_
 refine loopW [] [] [] (fun (k : Nat) => [.set 0 (L 15 (xs.map dGuest)), .set 3 (.one (.c (.ref ⟨7, [], 0⟩))), .set 4 (I k)]) (fun (k : Nat) => [(7, ⟨false, [.own (.sl 15 (fill dGuest (dGuest (VGuest.mk [] 0 0 [] [] (VCtl.mk 0 0 false) 0 (VExit.mk 0 0 false 0) false [])) xs k))]⟩)]) (fun (k : Nat) => k ≤ xs.length) (fun (k : Nat) => xs.length - k) (0) (by simp) ?_
 refine ⟨(hdw (by repeat' first | exact rfl | refine And.intro ?_ ?_ | exact True.intro | (refine eqS ?_; rw [← fill_zero]))), fun k hyp N1 hN1 => ?_⟩
 have hyp : k ≤ xs.length := hyp
 refine len ?_
 refine spl (fun hb => ?_) (fun hb => ?_)
 ·have hk : k < xs.length := by simpa using hb
  obtain ⟨x, hx⟩ := at_of (xs := xs) (k := k) hk
  have hsx : SmGuest x := hmx.2 x (List.mem_of_getElem? hx)
  have hg := fill_get (f := dGuest) (z := (dGuest (VGuest.mk [] 0 0 [] [] (VCtl.mk 0 0 false) 0 (VExit.mk 0 0 false 0) false []))) hk
  have hs := fill_set (f := dGuest) (z := (dGuest (VGuest.mk [] 0 0 [] [] (VCtl.mk 0 0 false) 0 (VExit.mk 0 0 false 0) false []))) hx
  refine ixm hx ?_
  refine callG (laws_toGuest_f x hsx).k ?_
  refine bnd (?_) (by rw [fill_len]; omega)
  refine ixn hg ?_
  refine rng ?_
  refine hN1 _ _ _ ?_
  refine nxt [] (k + 1) (by omega) (by repeat' first | exact rfl | refine And.intro ?_ ?_ | exact True.intro | (refine eqS ?_; first | (rw [← hs]) | (simp only [← hs])))
 ·refine hN1 _ _ _ ?_
  exact by simp at hb; rw [← fill_all (f := dGuest) (z := (dGuest (VGuest.mk [] 0 0 [] [] (VCtl.mk 0 0 false) 0 (VExit.mk 0 0 false 0) false []))) (k := k) (by omega)]; rfl
theorem laws_toKept_f (x : VKept) (hmx : SmKept x) : Fun Tryz.prog 203 [A (rKept x)] (RG [.a (rKept x)]) := by
 refine Fun.w 13 Tryz.func203 fun w g0 _ => ?_
 refine callL (laws_toBoolS_f x.Known hmx.1).k ?_
 refine callL (laws_toSlotS_f x.Slots hmx.2).k ?_
 exact rfl
theorem laws_toKeptS_f (xs : List VKept) (hmx : SmKeptS xs) : Fun Tryz.prog 112 [L 2 (xs.map dKept)] (RL 2 (xs.map dKept)) := by
 refine Fun.w 23 Tryz.func112 fun w g0 _ => ?_
 have hlen : xs.length ≤ 1048576 := hmx.1
 refine len ?_
 refine mkn ?_
 refine loopW [] [] [] (fun (k : Nat) => [.set 0 (L 2 (xs.map dKept)), .set 3 (.one (.c (.ref ⟨7, [], 0⟩))), .set 4 (I k)]) (fun (k : Nat) => [(7, ⟨false, [.own (.sl 2 (fill dKept (dKept (VKept.mk [] [])) xs k))]⟩)]) (fun (k : Nat) => k ≤ xs.length) (fun (k : Nat) => xs.length - k) (0) (by simp) ?_
 refine ⟨(hdw (by repeat' first | exact rfl | refine And.intro ?_ ?_ | exact True.intro | (refine eqS ?_; rw [← fill_zero]))), fun k hyp N1 hN1 => ?_⟩
 have hyp : k ≤ xs.length := hyp
 refine len ?_
 refine spl (fun hb => ?_) (fun hb => ?_)
 ·have hk : k < xs.length := by simpa using hb
  obtain ⟨x, hx⟩ := at_of (xs := xs) (k := k) hk
  have hsx : SmKept x := hmx.2 x (List.mem_of_getElem? hx)
  have hg := fill_get (f := dKept) (z := (dKept (VKept.mk [] []))) hk
  have hs := fill_set (f := dKept) (z := (dKept (VKept.mk [] []))) hx
  refine ixm hx ?_
  refine callG (laws_toKept_f x hsx).k ?_
  refine bnd (?_) (by rw [fill_len]; omega)
  refine ixn hg ?_
  refine rng ?_
  refine hN1 _ _ _ ?_
  refine nxt [] (k + 1) (by omega) (by repeat' first | exact rfl | refine And.intro ?_ ?_ | exact True.intro | (refine eqS ?_; first | (rw [← hs]) | (simp only [← hs])))
 ·refine hN1 _ _ _ ?_
  exact by simp at hb; rw [← fill_all (f := dKept) (z := (dKept (VKept.mk [] []))) (k := k) (by omega)]; rfl
theorem laws_toMon_f (x : VMon) (hmx : SmMon x) : Fun Tryz.prog 26 [A (rMon x)] (RG [.a (rMon x)]) := by
 refine Fun.w 38 Tryz.func26 fun w g0 _ => ?_
 refine callL (laws_toSlotS_f x.Outer hmx.1).k ?_
 refine callL (laws_toIntSS_f x.Out hmx.2.1).k ?_
 refine callL (laws_toBoolS_f x.Dirty hmx.2.2.1).k ?_
 refine callL (laws_toGuestS_f x.Guests hmx.2.2.2.1).k ?_
 refine callL (laws_toIntS_f x.Outs hmx.2.2.2.2.1).k ?_
 refine callL (laws_toKeptS_f x.Tables hmx.2.2.2.2.2).k ?_
 exact rfl
theorem laws_toMonS_f (xs : List VMon) (hmx : SmMonS xs) : Fun Tryz.prog 107 [L 9 (xs.map dMon)] (RL 9 (xs.map dMon)) := by
 refine Fun.w 23 Tryz.func107 fun w g0 _ => ?_
 have hlen : xs.length ≤ 1048576 := hmx.1
 refine len ?_
 refine mkn ?_
 refine loopW [] [] [] (fun (k : Nat) => [.set 0 (L 9 (xs.map dMon)), .set 3 (.one (.c (.ref ⟨7, [], 0⟩))), .set 4 (I k)]) (fun (k : Nat) => [(7, ⟨false, [.own (.sl 9 (fill dMon (dMon (VMon.mk [] [] [] [] [] 0 0 [] 0)) xs k))]⟩)]) (fun (k : Nat) => k ≤ xs.length) (fun (k : Nat) => xs.length - k) (0) (by simp) ?_
 refine ⟨(hdw (by repeat' first | exact rfl | refine And.intro ?_ ?_ | exact True.intro | (refine eqS ?_; rw [← fill_zero]))), fun k hyp N1 hN1 => ?_⟩
 have hyp : k ≤ xs.length := hyp
 refine len ?_
 refine spl (fun hb => ?_) (fun hb => ?_)
 ·have hk : k < xs.length := by simpa using hb
  obtain ⟨x, hx⟩ := at_of (xs := xs) (k := k) hk
  have hsx : SmMon x := hmx.2 x (List.mem_of_getElem? hx)
  have hg := fill_get (f := dMon) (z := (dMon (VMon.mk [] [] [] [] [] 0 0 [] 0))) hk
  have hs := fill_set (f := dMon) (z := (dMon (VMon.mk [] [] [] [] [] 0 0 [] 0))) hx
  refine ixm hx ?_
  refine callG (laws_toMon_f x hsx).k ?_
  refine bnd (?_) (by rw [fill_len]; omega)
  refine ixn hg ?_
  refine rng ?_
  refine hN1 _ _ _ ?_
  refine nxt [] (k + 1) (by omega) (by repeat' first | exact rfl | refine And.intro ?_ ?_ | exact True.intro | (refine eqS ?_; first | (rw [← hs]) | (simp only [← hs])))
 ·refine hN1 _ _ _ ?_
  exact by simp at hb; rw [← fill_all (f := dMon) (z := (dMon (VMon.mk [] [] [] [] [] 0 0 [] 0))) (k := k) (by omega)]; rfl
theorem laws_toEntry_f (x : VEntry) : Fun Tryz.prog 200 [A (rEntry x)] (RP (A (rEntry x))) := by
 refine Fun.w 17 Tryz.func200 fun w g0 _ => ?_
 exact rfl
theorem laws_toEntryS_f (xs : List VEntry) (hmx : SmEntryS xs) : Fun Tryz.prog 108 [L 4 (xs.map dEntry)] (RL 4 (xs.map dEntry)) := by
 refine Fun.w 23 Tryz.func108 fun w g0 _ => ?_
 have hlen : xs.length ≤ 1048576 := hmx
 refine len ?_
 refine mkn ?_
 refine loopW [] [] [] (fun (k : Nat) => [.set 0 (L 4 (xs.map dEntry)), .set 3 (.one (.c (.ref ⟨7, [], 0⟩))), .set 4 (I k)]) (fun (k : Nat) => [(7, ⟨false, [.own (.sl 4 (fill dEntry (dEntry (VEntry.mk 0 0 0 0)) xs k))]⟩)]) (fun (k : Nat) => k ≤ xs.length) (fun (k : Nat) => xs.length - k) (0) (by simp) ?_
 refine ⟨(hdw (by repeat' first | exact rfl | refine And.intro ?_ ?_ | exact True.intro | (refine eqS ?_; rw [← fill_zero]))), fun k hyp N1 hN1 => ?_⟩
 have hyp : k ≤ xs.length := hyp
 refine len ?_
 refine spl (fun hb => ?_) (fun hb => ?_)
 ·have hk : k < xs.length := by simpa using hb
  obtain ⟨x, hx⟩ := at_of (xs := xs) (k := k) hk
  have hg := fill_get (f := dEntry) (z := (dEntry (VEntry.mk 0 0 0 0))) hk
  have hs := fill_set (f := dEntry) (z := (dEntry (VEntry.mk 0 0 0 0))) hx
  refine ixm hx ?_
  refine callP (laws_toEntry_f x).k ?_
  refine bnd (?_) (by rw [fill_len]; omega)
  refine ixn hg ?_
  refine rng ?_
  refine hN1 _ _ _ ?_
  refine nxt [] (k + 1) (by omega) (by repeat' first | exact rfl | refine And.intro ?_ ?_ | exact True.intro | (refine eqS ?_; first | (rw [← hs]) | (simp only [← hs])))
 ·refine hN1 _ _ _ ?_
  exact by simp at hb; rw [← fill_all (f := dEntry) (z := (dEntry (VEntry.mk 0 0 0 0))) (k := k) (by omega)]; rfl
theorem laws_toHost_f (x : VHost) (hmx : SmHost x) : Fun Tryz.prog 25 [A (rHost x)] (RG [.a (rHost x)]) := by
 refine Fun.w 21 Tryz.func25 fun w g0 _ => ?_
 refine callL (laws_toIntSS_f x.Memory hmx.1).k ?_
 refine callL (laws_toMonS_f x.Mons hmx.2.1).k ?_
 refine callL (laws_toEntryS_f x.Buffer hmx.2.2.1).k ?_
 refine callL (laws_toEntryS_f x.IoBuffer hmx.2.2.2).k ?_
 exact rfl
end Go.Proofs.YteelmdpahpggkaaGreat.T

