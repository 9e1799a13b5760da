
import Derived.Test.YteelmdpahpggkaaGreatHqp
namespace Go.Proofs.YteelmdpahpggkaaGreat.T
open Go
set_option linter.unusedVariables false
set_option linter.unusedSimpArgs false
set_option maxRecDepth 100000
set_option maxHeartbeats 1000000
theorem laws_szInsS_f (xs : List VIns) (n : Int) (h1 : 0 ≤ n) (h2 : n ≤ 1048576) : Fun Tryz.prog 229 [L 2 (xs.map dIns), I n] (RV (.int .i64 (szInsS xs n))) := by
 refine Fun.w 12 Tryz.func229 fun w g0 hM => ?_
 have hm0 := hM.1.map
 refine len ?_
 refine rng ?_
 refine spl (fun hb => ?_) (fun hb => ?_)
 ·exact resV (by simp at hb; unfold szInsS; rw [if_pos (by omega)])
 ·exact resV (by simp at hb; unfold szInsS; rw [if_neg (by omega)])
theorem laws_szActS_f (xs : List VAct) (n : Int) (h1 : 0 ≤ n) (h2 : n ≤ 1048576) : Fun Tryz.prog 48 [L 6 (xs.map dAct), I n] (RV (.int .i64 (szActS xs n))) := by
 refine Fun.w 12 Tryz.func48 fun w g0 hM => ?_
 have hm0 := hM.1.map
 refine len ?_
 refine rng ?_
 refine spl (fun hb => ?_) (fun hb => ?_)
 ·exact resV (by simp at hb; unfold szActS; rw [if_pos (by omega)])
 ·exact resV (by simp at hb; unfold szActS; rw [if_neg (by omega)])
theorem laws_szInsSS_f (xs : List (List VIns)) (n : Int) (h1 : 0 ≤ n) (h2 : n ≤ 1048576) : Fun Tryz.prog 150 [L 1 (xs.map dInsS), I n] (RV (.int .i64 (szInsSS xs n))) := by
 refine Fun.w 27 Tryz.func150 fun w g0 hM => ?_
 have hm0 := hM.1.map
 refine len ?_
 refine rng ?_
 refine spl (fun hb => ?_) (fun hb => ?_)
 ·exact resV (by simp at hb; unfold szInsSS; rw [if_pos (by omega)])
 ·refine loopW [] [] [] (fun ((k, m) : Nat × Int) => [.set 0 (L 1 (xs.map dInsS)), .set 1 (I m), .set 5 (I k)]) (fun ((k, m) : Nat × Int) => []) (fun ((k, m) : Nat × Int) => k ≤ xs.length ∧ 0 ≤ m ∧ m ≤ n ∧ szInsSS xs n = szFold szInsS (xs.drop k) m) (fun ((k, m) : Nat × Int) => xs.length - k) (0, n - xs.length) ((by simp at hb; refine ⟨by omega, by omega, by omega, ?_⟩; unfold szInsSS; rw [if_neg (by omega), List.drop_zero])) ?_
  refine ⟨hdw, fun ⟨k, m⟩ hyp N1 hN1 => ?_⟩
  have hyp : k ≤ xs.length ∧ 0 ≤ m ∧ m ≤ n ∧ szInsSS xs n = szFold szInsS (xs.drop k) m := hyp
  refine len ?_
  refine spl (fun hb => ?_) (fun hb => ?_)
  ·have hk : k < xs.length := by simpa using hb
   obtain ⟨x, hx⟩ := at_of (xs := xs) (k := k) hk
   have hs := szFold_drop (f := szInsS) hx m
   refine ixm hx ?_
   refine callP (laws_szInsS_f x m hyp.2.1 (by omega)).k ?_
   have hz := (szInsS_ok x m)
   refine spl (fun hb => ?_) (fun hb => ?_)
   ·refine hN1 _ _ _ ?_
    exact resV (by simp at hb; rw [hyp.2.2.2, hs, if_pos hb])
   ·refine rng ?_
    refine hN1 _ _ _ ?_
    refine nxt [] (k + 1, szInsS x m) (by (simp at hb; have hz := hz (by omega); refine ⟨by omega, by omega, by omega, ?_⟩; rw [hyp.2.2.2, hs, if_neg (by omega)]))
  ·refine hN1 _ _ _ ?_
   exact resV (by simp at hb; rw [hyp.2.2.2, List.drop_eq_nil_of_le hb]; rfl)
theorem laws_szInsSSS_f (xs : List (List (List VIns))) (n : Int) (h1 : 0 ≤ n) (h2 : n ≤ 1048576) : Fun Tryz.prog 47 [L 1 (xs.map dInsSS), I n] (RV (.int .i64 (szInsSSS xs n))) := by
 refine Fun.w 27 Tryz.func47 fun w g0 hM => ?_
 have hm0 := hM.1.map
 refine len ?_
 refine rng ?_
 refine spl (fun hb => ?_) (fun hb => ?_)
 ·exact resV (by simp at hb; unfold szInsSSS; rw [if_pos (by omega)])
 ·refine loopW [] [] [] (fun ((k, m) : Nat × Int) => [.set 0 (L 1 (xs.map dInsSS)), .set 1 (I m), .set 5 (I k)]) (fun ((k, m) : Nat × Int) => []) (fun ((k, m) : Nat × Int) => k ≤ xs.length ∧ 0 ≤ m ∧ m ≤ n ∧ szInsSSS xs n = szFold szInsSS (xs.drop k) m) (fun ((k, m) : Nat × Int) => xs.length - k) (0, n - xs.length) ((by simp at hb; refine ⟨by omega, by omega, by omega, ?_⟩; unfold szInsSSS; rw [if_neg (by omega), List.drop_zero])) ?_
  refine ⟨hdw, fun ⟨k, m⟩ hyp N1 hN1 => ?_⟩
  have hyp : k ≤ xs.length ∧ 0 ≤ m ∧ m ≤ n ∧ szInsSSS xs n = szFold szInsSS (xs.drop k) m := hyp
  refine len ?_
  refine spl (fun hb => ?_) (fun hb => ?_)
  ·have hk : k < xs.length := by simpa using hb
   obtain ⟨x, hx⟩ := at_of (xs := xs) (k := k) hk
   have hs := szFold_drop (f := szInsSS) hx m
   refine ixm hx ?_
   refine callP (laws_szInsSS_f x m hyp.2.1 (by omega)).k ?_
   have hz := (szInsSS_ok x m)
   refine spl (fun hb => ?_) (fun hb => ?_)
   ·refine hN1 _ _ _ ?_
    exact resV (by simp at hb; rw [hyp.2.2.2, hs, if_pos hb])
   ·refine rng ?_
    refine hN1 _ _ _ ?_
    refine nxt [] (k + 1, szInsSS x m) (by (simp at hb; have hz := hz (by omega); refine ⟨by omega, by omega, by omega, ?_⟩; rw [hyp.2.2.2, hs, if_neg (by omega)]))
  ·refine hN1 _ _ _ ?_
   exact resV (by simp at hb; rw [hyp.2.2.2, List.drop_eq_nil_of_le hb]; rfl)
theorem laws_eqIntS_f (xs ys : List Int) : Fun Tryz.prog 45 [L 1 (xs.map dInt), L 1 (ys.map dInt)] (RV (.bool (decide (xs = ys)))) := by
 refine Fun.w 26 Tryz.func45 fun w g0 hM => ?_
 have hm0 := hM.1.map
 refine len ?_
 refine len ?_
 refine spl (fun hb => ?_) (fun hb => ?_)
 ·exact resV (by simp at *; intro e; subst e; simp at hb)
 ·have hl : xs.length = ys.length := by simp at hb; omega
  refine loopW [] [] [] (fun (k : Nat) => [.set 0 (L 1 (xs.map dInt)), .set 1 (L 1 (ys.map dInt)), .set 5 (I k)]) (fun (k : Nat) => []) (fun (k : Nat) => k ≤ xs.length ∧ xs.take k = ys.take k) (fun (k : Nat) => xs.length - k) (0) (by simp) ?_
  refine ⟨hdw, fun k hyp N1 hN1 => ?_⟩
  have hyp : k ≤ xs.length ∧ xs.take k = ys.take k := hyp
  refine len ?_
  refine spl (fun hb => ?_) (fun hb => ?_)
  ·have hk : k < xs.length := by simpa using hb
   obtain ⟨x, hx⟩ := at_of (xs := xs) (k := k) hk
   obtain ⟨y, hy⟩ := at_of (xs := ys) (k := k) (by omega)
   refine regQ ?_
   refine ixm hx ?_
   refine ixm hy ?_
   refine spl (fun hb => ?_) (fun hb => ?_)
   ·refine hN1 _ _ _ ?_
    exact resV (by simp at *; exact eq_off hx hy hb)
   ·refine rng ?_
    refine hN1 _ _ _ ?_
    refine nxt [] (k + 1) (⟨by omega, eq_step hyp.2 hx (by simp at hb; rw [hb]; exact hy)⟩)
  ·refine hN1 _ _ _ ?_
   exact resV (by simp at *; exact eq_all hl hyp.2 hb)
theorem laws_eqIntSS_f (xs ys : List (List Int)) : Fun Tryz.prog 85 [L 1 (xs.map dIntS), L 1 (ys.map dIntS)] (RV (.bool (decide (xs = ys)))) := by
 refine Fun.w 27 Tryz.func85 fun w g0 hM => ?_
 have hm0 := hM.1.map
 refine len ?_
 refine len ?_
 refine spl (fun hb => ?_) (fun hb => ?_)
 ·exact resV (by simp at *; intro e; subst e; simp at hb)
 ·have hl : xs.length = ys.length := by simp at hb; omega
  refine loopW [] [] [] (fun (k : Nat) => [.set 0 (L 1 (xs.map dIntS)), .set 1 (L 1 (ys.map dIntS)), .set 5 (I k)]) (fun (k : Nat) => []) (fun (k : Nat) => k ≤ xs.length ∧ xs.take k = ys.take k) (fun (k : Nat) => xs.length - k) (0) (by simp) ?_
  refine ⟨hdw, fun k hyp N1 hN1 => ?_⟩
  have hyp : k ≤ xs.length ∧ xs.take k = ys.take k := hyp
  refine len ?_
  refine spl (fun hb => ?_) (fun hb => ?_)
  ·have hk : k < xs.length := by simpa using hb
   obtain ⟨x, hx⟩ := at_of (xs := xs) (k := k) hk
   obtain ⟨y, hy⟩ := at_of (xs := ys) (k := k) (by omega)
   refine regQ ?_
   refine ixm hx ?_
   refine ixm hy ?_
   refine callQ (laws_eqIntS_f x y).k ?_
   refine spl (fun hb => ?_) (fun hb => ?_)
   ·refine hN1 _ _ _ ?_
    exact resV (by simp at *; exact eq_off hx hy hb)
   ·refine rng ?_
    refine hN1 _ _ _ ?_
    refine nxt [] (k + 1) (⟨by omega, eq_step hyp.2 hx (by simp at hb; rw [hb]; exact hy)⟩)
  ·refine hN1 _ _ _ ?_
   exact resV (by simp at *; exact eq_all hl hyp.2 hb)
theorem laws_eqSlot_f (x y : VSlot) : Fun Tryz.prog 214 [A (rSlot x), A (rSlot y)] (RV (.bool (decide (x = y)))) := by
 refine Fun.w 15 Tryz.func214 fun w g0 _ => ?_
 refine spl (fun hb => ?_) (fun hb => ?_)
 ·exact resV (by cases x; cases y; simp_all)
 ·refine spl (fun hb => ?_) (fun hb => ?_)
  ·exact resV (by cases x; cases y; simp_all)
  ·exact resV (by cases x; cases y; simp_all)
theorem laws_eqSlotS_f (xs ys : List VSlot) : Fun Tryz.prog 118 [L 2 (xs.map dSlot), L 2 (ys.map dSlot)] (RV (.bool (decide (xs = ys)))) := by
 refine Fun.w 27 Tryz.func118 fun w g0 hM => ?_
 have hm0 := hM.1.map
 refine len ?_
 refine len ?_
 refine spl (fun hb => ?_) (fun hb => ?_)
 ·exact resV (by simp at *; intro e; subst e; simp at hb)
 ·have hl : xs.length = ys.length := by simp at hb; omega
  refine loopW [] [] [] (fun (k : Nat) => [.set 0 (L 2 (xs.map dSlot)), .set 1 (L 2 (ys.map dSlot)), .set 5 (I k)]) (fun (k : Nat) => []) (fun (k : Nat) => k ≤ xs.length ∧ xs.take k = ys.take k) (fun (k : Nat) => xs.length - k) (0) (by simp) ?_
  refine ⟨hdw, fun k hyp N1 hN1 => ?_⟩
  have hyp : k ≤ xs.length ∧ xs.take k = ys.take k := hyp
  refine len ?_
  refine spl (fun hb => ?_) (fun hb => ?_)
  ·have hk : k < xs.length := by simpa using hb
   obtain ⟨x, hx⟩ := at_of (xs := xs) (k := k) hk
   obtain ⟨y, hy⟩ := at_of (xs := ys) (k := k) (by omega)
   refine regQ ?_
   refine ixm hx ?_
   refine ixm hy ?_
   refine callQ (laws_eqSlot_f x y).k ?_
   refine spl (fun hb => ?_) (fun hb => ?_)
   ·refine hN1 _ _ _ ?_
    exact resV (by simp at *; exact eq_off hx hy hb)
   ·refine rng ?_
    refine hN1 _ _ _ ?_
    refine nxt [] (k + 1) (⟨by omega, eq_step hyp.2 hx (by simp at hb; rw [hb]; exact hy)⟩)
  ·refine hN1 _ _ _ ?_
   exact resV (by simp at *; exact eq_all hl hyp.2 hb)
theorem laws_eqIns_f (x y : VIns) : Fun Tryz.prog 349 [A (rIns x), A (rIns y)] (RV (.bool (decide (x = y)))) := by
 refine Fun.w 15 Tryz.func349 fun w g0 _ => ?_
 refine spl (fun hb => ?_) (fun hb => ?_)
 ·exact resV (by cases x; cases y; simp_all)
 ·refine spl (fun hb => ?_) (fun hb => ?_)
  ·exact resV (by cases x; cases y; simp_all)
  ·exact resV (by cases x; cases y; simp_all)
theorem laws_eqInsS_f (xs ys : List VIns) : Fun Tryz.prog 254 [L 2 (xs.map dIns), L 2 (ys.map dIns)] (RV (.bool (decide (xs = ys)))) := by
 refine Fun.w 27 Tryz.func254 fun w g0 hM => ?_
 have hm0 := hM.1.map
 refine len ?_
 refine len ?_
 refine spl (fun hb => ?_) (fun hb => ?_)
 ·exact resV (by simp at *; intro e; subst e; simp at hb)
 ·have hl : xs.length = ys.length := by simp at hb; omega
  refine loopW [] [] [] (fun (k : Nat) => [.set 0 (L 2 (xs.map dIns)), .set 1 (L 2 (ys.map dIns)), .set 5 (I k)]) (fun (k : Nat) => []) (fun (k : Nat) => k ≤ xs.length ∧ xs.take k = ys.take k) (fun (k : Nat) => xs.length - k) (0) (by simp) ?_
  refine ⟨hdw, fun k hyp N1 hN1 => ?_⟩
  have hyp : k ≤ xs.length ∧ xs.take k = ys.take k := hyp
  refine len ?_
  refine spl (fun hb => ?_) (fun hb => ?_)
  ·have hk : k < xs.length := by simpa using hb
   obtain ⟨x, hx⟩ := at_of (xs := xs) (k := k) hk
   obtain ⟨y, hy⟩ := at_of (xs := ys) (k := k) (by omega)
   refine regQ ?_
   refine ixm hx ?_
   refine ixm hy ?_
   refine callQ (laws_eqIns_f x y).k ?_
   refine spl (fun hb => ?_) (fun hb => ?_)
   ·refine hN1 _ _ _ ?_
    exact resV (by simp at *; exact eq_off hx hy hb)
   ·refine rng ?_
    refine hN1 _ _ _ ?_
    refine nxt [] (k + 1) (⟨by omega, eq_step hyp.2 hx (by simp at hb; rw [hb]; exact hy)⟩)
  ·refine hN1 _ _ _ ?_
   exact resV (by simp at *; exact eq_all hl hyp.2 hb)
theorem laws_eqCtl_f (x y : VCtl) : Fun Tryz.prog 302 [A (rCtl x), A (rCtl y)] (RV (.bool (decide (x = y)))) := by
 refine Fun.w 20 Tryz.func302 fun w g0 _ => ?_
 refine spl (fun hb => ?_) (fun hb => ?_)
 ·exact resV (by cases x; cases y; simp_all)
 ·refine spl (fun hb => ?_) (fun hb => ?_)
  ·exact resV (by cases x; cases y; simp_all)
  ·refine spl (fun hb => ?_) (fun hb => ?_)
   ·exact resV (by cases x; cases y; simp_all)
   ·exact resV (by cases x; cases y; simp_all)
theorem laws_eqExit_f (x y : VExit) : Fun Tryz.prog 303 [A (rExit x), A (rExit y)] (RV (.bool (decide (x = y)))) := by
 refine Fun.w 25 Tryz.func303 fun w g0 _ => ?_
 refine spl (fun hb => ?_) (fun hb => ?_)
 ·exact resV (by cases x; cases y; simp_all)
 ·refine spl (fun hb => ?_) (fun hb => ?_)
  ·exact resV (by cases x; cases y; simp_all)
  ·refine spl (fun hb => ?_) (fun hb => ?_)
   ·exact resV (by cases x; cases y; simp_all)
   ·refine spl (fun hb => ?_) (fun hb => ?_)
    ·exact resV (by cases x; cases y; simp_all)
    ·exact resV (by cases x; cases y; simp_all)
theorem laws_eqGuest_f (x y : VGuest) : Fun Tryz.prog 215 [A (rGuest x), A (rGuest y)] (RV (.bool (decide (x = y)))) := by
 refine Fun.w 61 Tryz.func215 fun w g0 _ => ?_
 refine callP (laws_eqInsS_f x.Prog y.Prog).k ?_
 refine spl (fun hb => ?_) (fun hb => ?_)
 ·exact resV (by cases x; cases y; simp_all)
 ·refine spl (fun hb => ?_) (fun hb => ?_)
  ·exact resV (by cases x; cases y; simp_all)
  ·refine spl (fun hb => ?_) (fun hb => ?_)
   ·exact resV (by cases x; cases y; simp_all)
   ·refine callP (laws_eqSlotS_f x.Written y.Written).k ?_
    refine spl (fun hb => ?_) (fun hb => ?_)
    ·exact resV (by cases x; cases y; simp_all)
    ·refine callP (laws_eqSlotS_f x.Live y.Live).k ?_
     refine spl (fun hb => ?_) (fun hb => ?_)
     ·exact resV (by cases x; cases y; simp_all)
     ·refine callP (laws_eqCtl_f x.Ctl y.Ctl).k ?_
      refine spl (fun hb => ?_) (fun hb => ?_)
      ·exact resV (by cases x; cases y; simp_all)
      ·refine spl (fun hb => ?_) (fun hb => ?_)
       ·exact resV (by cases x; cases y; simp_all)
       ·refine callP (laws_eqExit_f x.Exit y.Exit).k ?_
        refine spl (fun hb => ?_) (fun hb => ?_)
        ·exact resV (by cases x; cases y; simp_all)
        ·refine spl (fun hb => ?_) (fun hb => ?_)
         ·exact resV (by cases x; cases y; simp_all)
         ·refine callP (laws_eqIntS_f x.Seen y.Seen).k ?_
          refine spl (fun hb => ?_) (fun hb => ?_)
          ·exact resV (by cases x; cases y; simp_all)
          ·exact resV (by cases x; cases y; simp_all)
theorem laws_eqGuestS_f (xs ys : List VGuest) : Fun Tryz.prog 120 [L 15 (xs.map dGuest), L 15 (ys.map dGuest)] (RV (.bool (decide (xs = ys)))) := by
 refine Fun.w 27 Tryz.func120 fun w g0 hM => ?_
 have hm0 := hM.1.map
 refine len ?_
 refine len ?_
 refine spl (fun hb => ?_) (fun hb => ?_)
 ·exact resV (by simp at *; intro e; subst e; simp at hb)
 ·have hl : xs.length = ys.length := by simp at hb; omega
  refine loopW [] [] [] (fun (k : Nat) => [.set 0 (L 15 (xs.map dGuest)), .set 1 (L 15 (ys.map dGuest)), .set 5 (I k)]) (fun (k : Nat) => []) (fun (k : Nat) => k ≤ xs.length ∧ xs.take k = ys.take k) (fun (k : Nat) => xs.length - k) (0) (by simp) ?_
  refine ⟨hdw, fun k hyp N1 hN1 => ?_⟩
  have hyp : k ≤ xs.length ∧ xs.take k = ys.take k := hyp
  refine len ?_
  refine spl (fun hb => ?_) (fun hb => ?_)
  ·have hk : k < xs.length := by simpa using hb
   obtain ⟨x, hx⟩ := at_of (xs := xs) (k := k) hk
   obtain ⟨y, hy⟩ := at_of (xs := ys) (k := k) (by omega)
   refine regQ ?_
   refine ixm hx ?_
   refine ixm hy ?_
   refine callQ (laws_eqGuest_f x y).k ?_
   refine spl (fun hb => ?_) (fun hb => ?_)
   ·refine hN1 _ _ _ ?_
    exact resV (by simp at *; exact eq_off hx hy hb)
   ·refine rng ?_
    refine hN1 _ _ _ ?_
    refine nxt [] (k + 1) (⟨by omega, eq_step hyp.2 hx (by simp at hb; rw [hb]; exact hy)⟩)
  ·refine hN1 _ _ _ ?_
   exact resV (by simp at *; exact eq_all hl hyp.2 hb)
theorem laws_eqBare_f (x y : VBare) : Fun Tryz.prog 159 [A (rBare x), A (rBare y)] (RV (.bool (decide (x = y)))) := by
 refine Fun.w 28 Tryz.func159 fun w g0 _ => ?_
 refine callP (laws_eqIntSS_f x.Memory y.Memory).k ?_
 refine spl (fun hb => ?_) (fun hb => ?_)
 ·exact resV (by cases x; cases y; simp_all)
 ·refine callP (laws_eqGuestS_f x.Guests y.Guests).k ?_
  refine spl (fun hb => ?_) (fun hb => ?_)
  ·exact resV (by cases x; cases y; simp_all)
  ·refine callP (laws_eqIntS_f x.Outs y.Outs).k ?_
   refine spl (fun hb => ?_) (fun hb => ?_)
   ·exact resV (by cases x; cases y; simp_all)
   ·refine spl (fun hb => ?_) (fun hb => ?_)
    ·exact resV (by cases x; cases y; simp_all)
    ·exact resV (by cases x; cases y; simp_all)
theorem laws_eqBareS_f (xs ys : List VBare) : Fun Tryz.prog 53 [L 4 (xs.map dBare), L 4 (ys.map dBare)] (RV (.bool (decide (xs = ys)))) := by
 refine Fun.w 27 Tryz.func53 fun w g0 hM => ?_
 have hm0 := hM.1.map
 refine len ?_
 refine len ?_
 refine spl (fun hb => ?_) (fun hb => ?_)
 ·exact resV (by simp at *; intro e; subst e; simp at hb)
 ·have hl : xs.length = ys.length := by simp at hb; omega
  refine loopW [] [] [] (fun (k : Nat) => [.set 0 (L 4 (xs.map dBare)), .set 1 (L 4 (ys.map dBare)), .set 5 (I k)]) (fun (k : Nat) => []) (fun (k : Nat) => k ≤ xs.length ∧ xs.take k = ys.take k) (fun (k : Nat) => xs.length - k) (0) (by simp) ?_
  refine ⟨hdw, fun k hyp N1 hN1 => ?_⟩
  have hyp : k ≤ xs.length ∧ xs.take k = ys.take k := hyp
  refine len ?_
  refine spl (fun hb => ?_) (fun hb => ?_)
  ·have hk : k < xs.length := by simpa using hb
   obtain ⟨x, hx⟩ := at_of (xs := xs) (k := k) hk
   obtain ⟨y, hy⟩ := at_of (xs := ys) (k := k) (by omega)
   refine regQ ?_
   refine ixm hx ?_
   refine ixm hy ?_
   refine callQ (laws_eqBare_f x y).k ?_
   refine spl (fun hb => ?_) (fun hb => ?_)
   ·refine hN1 _ _ _ ?_
    exact resV (by simp at *; exact eq_off hx hy hb)
   ·refine rng ?_
    refine hN1 _ _ _ ?_
    refine nxt [] (k + 1) (⟨by omega, eq_step hyp.2 hx (by simp at hb; rw [hb]; exact hy)⟩)
  ·refine hN1 _ _ _ ?_
   exact resV (by simp at *; exact eq_all hl hyp.2 hb)
theorem laws_eqTold_f (x y : VTold) : Fun Tryz.prog 160 [A (rTold x), A (rTold y)] (RV (.bool (decide (x = y)))) := by
 refine Fun.w 15 Tryz.func160 fun w g0 _ => ?_
 refine spl (fun hb => ?_) (fun hb => ?_)
 ·exact resV (by cases x; cases y; simp_all)
 ·refine spl (fun hb => ?_) (fun hb => ?_)
  ·exact resV (by cases x; cases y; simp_all)
  ·exact resV (by cases x; cases y; simp_all)
theorem laws_eqToldS_f (xs ys : List VTold) : Fun Tryz.prog 54 [L 2 (xs.map dTold), L 2 (ys.map dTold)] (RV (.bool (decide (xs = ys)))) := by
 refine Fun.w 27 Tryz.func54 fun w g0 hM => ?_
 have hm0 := hM.1.map
 refine len ?_
 refine len ?_
 refine spl (fun hb => ?_) (fun hb => ?_)
 ·exact resV (by simp at *; intro e; subst e; simp at hb)
 ·have hl : xs.length = ys.length := by simp at hb; omega
  refine loopW [] [] [] (fun (k : Nat) => [.set 0 (L 2 (xs.map dTold)), .set 1 (L 2 (ys.map dTold)), .set 5 (I k)]) (fun (k : Nat) => []) (fun (k : Nat) => k ≤ xs.length ∧ xs.take k = ys.take k) (fun (k : Nat) => xs.length - k) (0) (by simp) ?_
  refine ⟨hdw, fun k hyp N1 hN1 => ?_⟩
  have hyp : k ≤ xs.length ∧ xs.take k = ys.take k := hyp
  refine len ?_
  refine spl (fun hb => ?_) (fun hb => ?_)
  ·have hk : k < xs.length := by simpa using hb
   obtain ⟨x, hx⟩ := at_of (xs := xs) (k := k) hk
   obtain ⟨y, hy⟩ := at_of (xs := ys) (k := k) (by omega)
   refine regQ ?_
   refine ixm hx ?_
   refine ixm hy ?_
   refine callQ (laws_eqTold_f x y).k ?_
   refine spl (fun hb => ?_) (fun hb => ?_)
   ·refine hN1 _ _ _ ?_
    exact resV (by simp at *; exact eq_off hx hy hb)
   ·refine rng ?_
    refine hN1 _ _ _ ?_
    refine nxt [] (k + 1) (⟨by omega, eq_step hyp.2 hx (by simp at hb; rw [hb]; exact hy)⟩)
  ·refine hN1 _ _ _ ?_
   exact resV (by simp at *; exact eq_all hl hyp.2 hb)
theorem laws_eqAct_f (x y : VAct) : Fun Tryz.prog 162 [A (rAct x), A (rAct y)] (RV (.bool (decide (x = y)))) := by
 refine Fun.w 35 Tryz.func162 fun w g0 _ => ?_
 refine spl (fun hb => ?_) (fun hb => ?_)
 ·exact resV (by cases x; cases y; simp_all)
 ·refine spl (fun hb => ?_) (fun hb => ?_)
  ·exact resV (by cases x; cases y; simp_all)
  ·refine spl (fun hb => ?_) (fun hb => ?_)
   ·exact resV (by cases x; cases y; simp_all)
   ·refine spl (fun hb => ?_) (fun hb => ?_)
    ·exact resV (by cases x; cases y; simp_all)
    ·refine spl (fun hb => ?_) (fun hb => ?_)
     ·exact resV (by cases x; cases y; simp_all)
     ·refine spl (fun hb => ?_) (fun hb => ?_)
      ·exact resV (by cases x; cases y; simp_all)
      ·exact resV (by cases x; cases y; simp_all)
theorem laws_eqActS_f (xs ys : List VAct) : Fun Tryz.prog 56 [L 6 (xs.map dAct), L 6 (ys.map dAct)] (RV (.bool (decide (xs = ys)))) := by
 refine Fun.w 27 Tryz.func56 fun w g0 hM => ?_
 have hm0 := hM.1.map
 refine len ?_
 refine len ?_
 refine spl (fun hb => ?_) (fun hb => ?_)
 ·exact resV (by simp at *; intro e; subst e; simp at hb)
 ·have hl : xs.length = ys.length := by simp at hb; omega
  refine loopW [] [] [] (fun (k : Nat) => [.set 0 (L 6 (xs.map dAct)), .set 1 (L 6 (ys.map dAct)), .set 5 (I k)]) (fun (k : Nat) => []) (fun (k : Nat) => k ≤ xs.length ∧ xs.take k = ys.take k) (fun (k : Nat) => xs.length - k) (0) (by simp) ?_
  refine ⟨hdw, fun k hyp N1 hN1 => ?_⟩
  have hyp : k ≤ xs.length ∧ xs.take k = ys.take k := hyp
  refine len ?_
  refine spl (fun hb => ?_) (fun hb => ?_)
  ·have hk : k < xs.length := by simpa using hb
   obtain ⟨x, hx⟩ := at_of (xs := xs) (k := k) hk
   obtain ⟨y, hy⟩ := at_of (xs := ys) (k := k) (by omega)
   refine regQ ?_
   refine ixm hx ?_
   refine ixm hy ?_
   refine callQ (laws_eqAct_f x y).k ?_
   refine spl (fun hb => ?_) (fun hb => ?_)
   ·refine hN1 _ _ _ ?_
    exact resV (by simp at *; exact eq_off hx hy hb)
   ·refine rng ?_
    refine hN1 _ _ _ ?_
    refine nxt [] (k + 1) (⟨by omega, eq_step hyp.2 hx (by simp at hb; rw [hb]; exact hy)⟩)
  ·refine hN1 _ _ _ ?_
   exact resV (by simp at *; exact eq_all hl hyp.2 hb)
theorem laws_eqInsSS_f (xs ys : List (List VIns)) : Fun Tryz.prog 161 [L 1 (xs.map dInsS), L 1 (ys.map dInsS)] (RV (.bool (decide (xs = ys)))) := by
 refine Fun.w 27 Tryz.func161 fun w g0 hM => ?_
 have hm0 := hM.1.map
 refine len ?_
 refine len ?_
 refine spl (fun hb => ?_) (fun hb => ?_)
 ·exact resV (by simp at *; intro e; subst e; simp at hb)
 ·have hl : xs.length = ys.length := by simp at hb; omega
  refine loopW [] [] [] (fun (k : Nat) => [.set 0 (L 1 (xs.map dInsS)), .set 1 (L 1 (ys.map dInsS)), .set 5 (I k)]) (fun (k : Nat) => []) (fun (k : Nat) => k ≤ xs.length ∧ xs.take k = ys.take k) (fun (k : Nat) => xs.length - k) (0) (by simp) ?_
  refine ⟨hdw, fun k hyp N1 hN1 => ?_⟩
  have hyp : k ≤ xs.length ∧ xs.take k = ys.take k := hyp
  refine len ?_
  refine spl (fun hb => ?_) (fun hb => ?_)
  ·have hk : k < xs.length := by simpa using hb
   obtain ⟨x, hx⟩ := at_of (xs := xs) (k := k) hk
   obtain ⟨y, hy⟩ := at_of (xs := ys) (k := k) (by omega)
   refine regQ ?_
   refine ixm hx ?_
   refine ixm hy ?_
   refine callQ (laws_eqInsS_f x y).k ?_
   refine spl (fun hb => ?_) (fun hb => ?_)
   ·refine hN1 _ _ _ ?_
    exact resV (by simp at *; exact eq_off hx hy hb)
   ·refine rng ?_
    refine hN1 _ _ _ ?_
    refine nxt [] (k + 1) (⟨by omega, eq_step hyp.2 hx (by simp at hb; rw [hb]; exact hy)⟩)
  ·refine hN1 _ _ _ ?_
   exact resV (by simp at *; exact eq_all hl hyp.2 hb)
theorem laws_eqInsSSS_f (xs ys : List (List (List VIns))) : Fun Tryz.prog 55 [L 1 (xs.map dInsSS), L 1 (ys.map dInsSS)] (RV (.bool (decide (xs = ys)))) := by
 refine Fun.w 27 Tryz.func55 fun w g0 hM => ?_
 have hm0 := hM.1.map
 refine len ?_
 refine len ?_
 refine spl (fun hb => ?_) (fun hb => ?_)
 ·exact resV (by simp at *; intro e; subst e; simp at hb)
 ·have hl : xs.length = ys.length := by simp at hb; omega
  refine loopW [] [] [] (fun (k : Nat) => [.set 0 (L 1 (xs.map dInsSS)), .set 1 (L 1 (ys.map dInsSS)), .set 5 (I k)]) (fun (k : Nat) => []) (fun (k : Nat) => k ≤ xs.length ∧ xs.take k = ys.take k) (fun (k : Nat) => xs.length - k) (0) (by simp) ?_
  refine ⟨hdw, fun k hyp N1 hN1 => ?_⟩
  have hyp : k ≤ xs.length ∧ xs.take k = ys.take k := hyp
  refine len ?_
  refine spl (fun hb => ?_) (fun hb => ?_)
  ·have hk : k < xs.length := by simpa using hb
   obtain ⟨x, hx⟩ := at_of (xs := xs) (k := k) hk
   obtain ⟨y, hy⟩ := at_of (xs := ys) (k := k) (by omega)
   refine regQ ?_
   refine ixm hx ?_
   refine ixm hy ?_
   refine callQ (laws_eqInsSS_f x y).k ?_
   refine spl (fun hb => ?_) (fun hb => ?_)
   ·refine hN1 _ _ _ ?_
    exact resV (by simp at *; exact eq_off hx hy hb)
   ·refine rng ?_
    refine hN1 _ _ _ ?_
    refine nxt [] (k + 1) (⟨by omega, eq_step hyp.2 hx (by simp at hb; rw [hb]; exact hy)⟩)
  ·refine hN1 _ _ _ ?_
   exact resV (by simp at *; exact eq_all hl hyp.2 hb)
end Go.Proofs.YteelmdpahpggkaaGreat.T

