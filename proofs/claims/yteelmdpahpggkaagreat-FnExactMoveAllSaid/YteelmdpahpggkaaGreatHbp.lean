
import Derived.Test.YteelmdpahpggkaaGreatHap
namespace Go.Proofs.YteelmdpahpggkaaGreat.T
open Go
set_option linter.unusedVariables false
set_option linter.unusedSimpArgs false
set_option maxRecDepth 100000
set_option maxHeartbeats 1000000
theorem laws_szIntS_f (xs : List Int) (n : Int) (h1 : 0 ≤ n) (h2 : n ≤ 1048576) : Fun Tryz.prog 71 [L 1 (xs.map dInt), I n] (RV (.int .i64 (szIntS xs n))) := by
 refine Fun.w 12 Tryz.func71 fun w g0 hM => ?_
 have hm0 := hM.1.map
 refine len ?_
 refine rng ?_
 refine spl (fun hb => ?_) (fun hb => ?_)
 ·exact resV (by simp at hb; unfold szIntS; rw [if_pos (by omega)])
 ·exact resV (by simp at hb; unfold szIntS; rw [if_neg (by omega)])
theorem laws_szIntSS_f (xs : List (List Int)) (n : Int) (h1 : 0 ≤ n) (h2 : n ≤ 1048576) : Fun Tryz.prog 94 [L 1 (xs.map dIntS), I n] (RV (.int .i64 (szIntSS xs n))) := by
 refine Fun.w 27 Tryz.func94 fun w g0 hM => ?_
 have hm0 := hM.1.map
 refine len ?_
 refine rng ?_
 refine spl (fun hb => ?_) (fun hb => ?_)
 ·exact resV (by simp at hb; unfold szIntSS; rw [if_pos (by omega)])
 ·refine loopW [] [] [] (fun ((k, m) : Nat × Int) => [.set 0 (L 1 (xs.map dIntS)), .set 1 (I m), .set 5 (I k)]) (fun ((k, m) : Nat × Int) => []) (fun ((k, m) : Nat × Int) => k ≤ xs.length ∧ 0 ≤ m ∧ m ≤ n ∧ szIntSS xs n = szFold szIntS (xs.drop k) m) (fun ((k, m) : Nat × Int) => xs.length - k) (0, n - xs.length) ((by simp at hb; refine ⟨by omega, by omega, by omega, ?_⟩; unfold szIntSS; rw [if_neg (by omega), List.drop_zero])) ?_
  refine ⟨hdw, fun ⟨k, m⟩ hyp N1 hN1 => ?_⟩
  have hyp : k ≤ xs.length ∧ 0 ≤ m ∧ m ≤ n ∧ szIntSS xs n = szFold szIntS (xs.drop k) m := hyp
  refine len ?_
  refine spl (fun hb => ?_) (fun hb => ?_)
  ·have hk : k < xs.length := by simpa using hb
   obtain ⟨x, hx⟩ := at_of (xs := xs) (k := k) hk
   have hs := szFold_drop (f := szIntS) hx m
   refine ixm hx ?_
   refine callP (laws_szIntS_f x m hyp.2.1 (by omega)).k ?_
   have hz := (szIntS_ok x m)
   refine spl (fun hb => ?_) (fun hb => ?_)
   ·refine hN1 _ _ _ ?_
    exact resV (by simp at hb; rw [hyp.2.2.2, hs, if_pos hb])
   ·refine rng ?_
    refine hN1 _ _ _ ?_
    refine nxt [] (k + 1, szIntS x m) (by (simp at hb; have hz := hz (by omega); refine ⟨by omega, by omega, by omega, ?_⟩; rw [hyp.2.2.2, hs, if_neg (by omega)]))
  ·refine hN1 _ _ _ ?_
   exact resV (by simp at hb; rw [hyp.2.2.2, List.drop_eq_nil_of_le hb]; rfl)
theorem laws_szSlotS_f (xs : List VSlot) (n : Int) (h1 : 0 ≤ n) (h2 : n ≤ 1048576) : Fun Tryz.prog 97 [L 2 (xs.map dSlot), I n] (RV (.int .i64 (szSlotS xs n))) := by
 refine Fun.w 12 Tryz.func97 fun w g0 hM => ?_
 have hm0 := hM.1.map
 refine len ?_
 refine rng ?_
 refine spl (fun hb => ?_) (fun hb => ?_)
 ·exact resV (by simp at hb; unfold szSlotS; rw [if_pos (by omega)])
 ·exact resV (by simp at hb; unfold szSlotS; rw [if_neg (by omega)])
theorem laws_szBoolS_f (xs : List Bool) (n : Int) (h1 : 0 ≤ n) (h2 : n ≤ 1048576) : Fun Tryz.prog 98 [L 1 (xs.map dBool), I n] (RV (.int .i64 (szBoolS xs n))) := by
 refine Fun.w 12 Tryz.func98 fun w g0 hM => ?_
 have hm0 := hM.1.map
 refine len ?_
 refine rng ?_
 refine spl (fun hb => ?_) (fun hb => ?_)
 ·exact resV (by simp at hb; unfold szBoolS; rw [if_pos (by omega)])
 ·exact resV (by simp at hb; unfold szBoolS; rw [if_neg (by omega)])
theorem laws_szInsS_f (xs : List VIns) (n : Int) (h1 : 0 ≤ n) (h2 : n ≤ 1048576) : Fun Tryz.prog 229 [L 2 (xs.map dIns), I n] (RV (.int .i64 (szInsS xs n))) := by
 refine Fun.w 12 Tryz.func229 fun w g0 hM => ?_
 have hm0 := hM.1.map
 refine len ?_
 refine rng ?_
 refine spl (fun hb => ?_) (fun hb => ?_)
 ·exact resV (by simp at hb; unfold szInsS; rw [if_pos (by omega)])
 ·exact resV (by simp at hb; unfold szInsS; rw [if_neg (by omega)])
theorem laws_szGuest_f (x : VGuest) (n : Int) (h1 : 0 ≤ n) (h2 : n ≤ 1048576) : Fun Tryz.prog 190 [A (rGuest x), I n] (RV (.int .i64 (szGuest x n))) := by
 refine Fun.w 30 Tryz.func190 fun w g0 _ => ?_
 refine callP (laws_szInsS_f x.Prog (n) (by (try simp at *); omega) (by (try simp at *); omega)).k ?_
 refine spl (fun hb => ?_) (fun hb => ?_)
 ·exact resV (by simp at *; simp [szGuest, szThen, *]; try omega)
 ·refine callP (laws_szSlotS_f x.Written (szInsS x.Prog (n)) (by (try simp at *); have e0 := szInsS_le x.Prog (n) (by omega); omega) (by (try simp at *); have e0 := szInsS_le x.Prog (n) (by omega); omega)).k ?_
  refine spl (fun hb => ?_) (fun hb => ?_)
  ·exact resV (by simp at *; simp [szGuest, szThen, *]; try omega)
  ·refine callP (laws_szSlotS_f x.Live (szSlotS x.Written (szInsS x.Prog (n))) (by (try simp at *); have e0 := szInsS_le x.Prog (n) (by omega); have e1 := szSlotS_le x.Written (szInsS x.Prog (n)) (by omega); omega) (by (try simp at *); have e0 := szInsS_le x.Prog (n) (by omega); have e1 := szSlotS_le x.Written (szInsS x.Prog (n)) (by omega); omega)).k ?_
   refine spl (fun hb => ?_) (fun hb => ?_)
   ·exact resV (by simp at *; simp [szGuest, szThen, *]; try omega)
   ·refine callP (laws_szIntS_f x.Seen (szSlotS x.Live (szSlotS x.Written (szInsS x.Prog (n)))) (by (try simp at *); have e0 := szInsS_le x.Prog (n) (by omega); have e1 := szSlotS_le x.Written (szInsS x.Prog (n)) (by omega); have e2 := szSlotS_le x.Live (szSlotS x.Written (szInsS x.Prog (n))) (by omega); omega) (by (try simp at *); have e0 := szInsS_le x.Prog (n) (by omega); have e1 := szSlotS_le x.Written (szInsS x.Prog (n)) (by omega); have e2 := szSlotS_le x.Live (szSlotS x.Written (szInsS x.Prog (n))) (by omega); omega)).k ?_
    refine spl (fun hb => ?_) (fun hb => ?_)
    ·exact resV (by simp at *; simp [szGuest, szThen, *]; try omega)
    ·exact resV (by simp at *; simp [szGuest, szThen, *]; try omega)
theorem laws_szGuestS_f (xs : List VGuest) (n : Int) (h1 : 0 ≤ n) (h2 : n ≤ 1048576) : Fun Tryz.prog 99 [L 15 (xs.map dGuest), I n] (RV (.int .i64 (szGuestS xs n))) := by
 refine Fun.w 27 Tryz.func99 fun w g0 hM => ?_
 have hm0 := hM.1.map
 refine len ?_
 refine rng ?_
 refine spl (fun hb => ?_) (fun hb => ?_)
 ·exact resV (by simp at hb; unfold szGuestS; rw [if_pos (by omega)])
 ·refine loopW [] [] [] (fun ((k, m) : Nat × Int) => [.set 0 (L 15 (xs.map dGuest)), .set 1 (I m), .set 5 (I k)]) (fun ((k, m) : Nat × Int) => []) (fun ((k, m) : Nat × Int) => k ≤ xs.length ∧ 0 ≤ m ∧ m ≤ n ∧ szGuestS xs n = szFold szGuest (xs.drop k) m) (fun ((k, m) : Nat × Int) => xs.length - k) (0, n - xs.length) ((by simp at hb; refine ⟨by omega, by omega, by omega, ?_⟩; unfold szGuestS; rw [if_neg (by omega), List.drop_zero])) ?_
  refine ⟨hdw, fun ⟨k, m⟩ hyp N1 hN1 => ?_⟩
  have hyp : k ≤ xs.length ∧ 0 ≤ m ∧ m ≤ n ∧ szGuestS xs n = szFold szGuest (xs.drop k) m := hyp
  refine len ?_
  refine spl (fun hb => ?_) (fun hb => ?_)
  ·have hk : k < xs.length := by simpa using hb
   obtain ⟨x, hx⟩ := at_of (xs := xs) (k := k) hk
   have hs := szFold_drop (f := szGuest) hx m
   refine ixm hx ?_
   refine callP (laws_szGuest_f x m hyp.2.1 (by omega)).k ?_
   have hz := (szGuest_ok x m)
   refine spl (fun hb => ?_) (fun hb => ?_)
   ·refine hN1 _ _ _ ?_
    exact resV (by simp at hb; rw [hyp.2.2.2, hs, if_pos hb])
   ·refine rng ?_
    refine hN1 _ _ _ ?_
    refine nxt [] (k + 1, szGuest x m) (by (simp at hb; have hz := hz (by omega); refine ⟨by omega, by omega, by omega, ?_⟩; rw [hyp.2.2.2, hs, if_neg (by omega)]))
  ·refine hN1 _ _ _ ?_
   exact resV (by simp at hb; rw [hyp.2.2.2, List.drop_eq_nil_of_le hb]; rfl)
theorem laws_szKept_f (x : VKept) (n : Int) (h1 : 0 ≤ n) (h2 : n ≤ 1048576) : Fun Tryz.prog 191 [A (rKept x), I n] (RV (.int .i64 (szKept x n))) := by
 refine Fun.w 18 Tryz.func191 fun w g0 _ => ?_
 refine callP (laws_szBoolS_f x.Known (n) (by (try simp at *); omega) (by (try simp at *); omega)).k ?_
 refine spl (fun hb => ?_) (fun hb => ?_)
 ·exact resV (by simp at *; simp [szKept, szThen, *]; try omega)
 ·refine callP (laws_szSlotS_f x.Slots (szBoolS x.Known (n)) (by (try simp at *); have e0 := szBoolS_le x.Known (n) (by omega); omega) (by (try simp at *); have e0 := szBoolS_le x.Known (n) (by omega); omega)).k ?_
  refine spl (fun hb => ?_) (fun hb => ?_)
  ·exact resV (by simp at *; simp [szKept, szThen, *]; try omega)
  ·exact resV (by simp at *; simp [szKept, szThen, *]; try omega)
theorem laws_szKeptS_f (xs : List VKept) (n : Int) (h1 : 0 ≤ n) (h2 : n ≤ 1048576) : Fun Tryz.prog 100 [L 2 (xs.map dKept), I n] (RV (.int .i64 (szKeptS xs n))) := by
 refine Fun.w 27 Tryz.func100 fun w g0 hM => ?_
 have hm0 := hM.1.map
 refine len ?_
 refine rng ?_
 refine spl (fun hb => ?_) (fun hb => ?_)
 ·exact resV (by simp at hb; unfold szKeptS; rw [if_pos (by omega)])
 ·refine loopW [] [] [] (fun ((k, m) : Nat × Int) => [.set 0 (L 2 (xs.map dKept)), .set 1 (I m), .set 5 (I k)]) (fun ((k, m) : Nat × Int) => []) (fun ((k, m) : Nat × Int) => k ≤ xs.length ∧ 0 ≤ m ∧ m ≤ n ∧ szKeptS xs n = szFold szKept (xs.drop k) m) (fun ((k, m) : Nat × Int) => xs.length - k) (0, n - xs.length) ((by simp at hb; refine ⟨by omega, by omega, by omega, ?_⟩; unfold szKeptS; rw [if_neg (by omega), List.drop_zero])) ?_
  refine ⟨hdw, fun ⟨k, m⟩ hyp N1 hN1 => ?_⟩
  have hyp : k ≤ xs.length ∧ 0 ≤ m ∧ m ≤ n ∧ szKeptS xs n = szFold szKept (xs.drop k) m := hyp
  refine len ?_
  refine spl (fun hb => ?_) (fun hb => ?_)
  ·have hk : k < xs.length := by simpa using hb
   obtain ⟨x, hx⟩ := at_of (xs := xs) (k := k) hk
   have hs := szFold_drop (f := szKept) hx m
   refine ixm hx ?_
   refine callP (laws_szKept_f x m hyp.2.1 (by omega)).k ?_
   have hz := (szKept_ok x m)
   refine spl (fun hb => ?_) (fun hb => ?_)
   ·refine hN1 _ _ _ ?_
    exact resV (by simp at hb; rw [hyp.2.2.2, hs, if_pos hb])
   ·refine rng ?_
    refine hN1 _ _ _ ?_
    refine nxt [] (k + 1, szKept x m) (by (simp at hb; have hz := hz (by omega); refine ⟨by omega, by omega, by omega, ?_⟩; rw [hyp.2.2.2, hs, if_neg (by omega)]))
  ·refine hN1 _ _ _ ?_
   exact resV (by simp at hb; rw [hyp.2.2.2, List.drop_eq_nil_of_le hb]; rfl)
theorem laws_szMon_f (x : VMon) (n : Int) (h1 : 0 ≤ n) (h2 : n ≤ 1048576) : Fun Tryz.prog 23 [A (rMon x), I n] (RV (.int .i64 (szMon x n))) := by
 refine Fun.w 42 Tryz.func23 fun w g0 _ => ?_
 refine callP (laws_szSlotS_f x.Outer (n) (by (try simp at *); omega) (by (try simp at *); omega)).k ?_
 refine spl (fun hb => ?_) (fun hb => ?_)
 ·exact resV (by simp at *; simp [szMon, szThen, *]; try omega)
 ·refine callP (laws_szIntSS_f x.Out (szSlotS x.Outer (n)) (by (try simp at *); have e0 := szSlotS_le x.Outer (n) (by omega); omega) (by (try simp at *); have e0 := szSlotS_le x.Outer (n) (by omega); omega)).k ?_
  refine spl (fun hb => ?_) (fun hb => ?_)
  ·exact resV (by simp at *; simp [szMon, szThen, *]; try omega)
  ·refine callP (laws_szBoolS_f x.Dirty (szIntSS x.Out (szSlotS x.Outer (n))) (by (try simp at *); have e0 := szSlotS_le x.Outer (n) (by omega); have e1 := szIntSS_le x.Out (szSlotS x.Outer (n)) (by omega); omega) (by (try simp at *); have e0 := szSlotS_le x.Outer (n) (by omega); have e1 := szIntSS_le x.Out (szSlotS x.Outer (n)) (by omega); omega)).k ?_
   refine spl (fun hb => ?_) (fun hb => ?_)
   ·exact resV (by simp at *; simp [szMon, szThen, *]; try omega)
   ·refine callP (laws_szGuestS_f x.Guests (szBoolS x.Dirty (szIntSS x.Out (szSlotS x.Outer (n)))) (by (try simp at *); have e0 := szSlotS_le x.Outer (n) (by omega); have e1 := szIntSS_le x.Out (szSlotS x.Outer (n)) (by omega); have e2 := szBoolS_le x.Dirty (szIntSS x.Out (szSlotS x.Outer (n))) (by omega); omega) (by (try simp at *); have e0 := szSlotS_le x.Outer (n) (by omega); have e1 := szIntSS_le x.Out (szSlotS x.Outer (n)) (by omega); have e2 := szBoolS_le x.Dirty (szIntSS x.Out (szSlotS x.Outer (n))) (by omega); omega)).k ?_
    refine spl (fun hb => ?_) (fun hb => ?_)
    ·exact resV (by simp at *; simp [szMon, szThen, *]; try omega)
    ·refine callP (laws_szIntS_f x.Outs (szGuestS x.Guests (szBoolS x.Dirty (szIntSS x.Out (szSlotS x.Outer (n))))) (by (try simp at *); have e0 := szSlotS_le x.Outer (n) (by omega); have e1 := szIntSS_le x.Out (szSlotS x.Outer (n)) (by omega); have e2 := szBoolS_le x.Dirty (szIntSS x.Out (szSlotS x.Outer (n))) (by omega); have e3 := szGuestS_le x.Guests (szBoolS x.Dirty (szIntSS x.Out (szSlotS x.Outer (n)))) (by omega); omega) (by (try simp at *); have e0 := szSlotS_le x.Outer (n) (by omega); have e1 := szIntSS_le x.Out (szSlotS x.Outer (n)) (by omega); have e2 := szBoolS_le x.Dirty (szIntSS x.Out (szSlotS x.Outer (n))) (by omega); have e3 := szGuestS_le x.Guests (szBoolS x.Dirty (szIntSS x.Out (szSlotS x.Outer (n)))) (by omega); omega)).k ?_
     refine spl (fun hb => ?_) (fun hb => ?_)
     ·exact resV (by simp at *; simp [szMon, szThen, *]; try omega)
     ·refine callP (laws_szKeptS_f x.Tables (szIntS x.Outs (szGuestS x.Guests (szBoolS x.Dirty (szIntSS x.Out (szSlotS x.Outer (n)))))) (by (try simp at *); have e0 := szSlotS_le x.Outer (n) (by omega); have e1 := szIntSS_le x.Out (szSlotS x.Outer (n)) (by omega); have e2 := szBoolS_le x.Dirty (szIntSS x.Out (szSlotS x.Outer (n))) (by omega); have e3 := szGuestS_le x.Guests (szBoolS x.Dirty (szIntSS x.Out (szSlotS x.Outer (n)))) (by omega); have e4 := szIntS_le x.Outs (szGuestS x.Guests (szBoolS x.Dirty (szIntSS x.Out (szSlotS x.Outer (n))))) (by omega); omega) (by (try simp at *); have e0 := szSlotS_le x.Outer (n) (by omega); have e1 := szIntSS_le x.Out (szSlotS x.Outer (n)) (by omega); have e2 := szBoolS_le x.Dirty (szIntSS x.Out (szSlotS x.Outer (n))) (by omega); have e3 := szGuestS_le x.Guests (szBoolS x.Dirty (szIntSS x.Out (szSlotS x.Outer (n)))) (by omega); have e4 := szIntS_le x.Outs (szGuestS x.Guests (szBoolS x.Dirty (szIntSS x.Out (szSlotS x.Outer (n))))) (by omega); omega)).k ?_
      refine spl (fun hb => ?_) (fun hb => ?_)
      ·exact resV (by simp at *; simp [szMon, szThen, *]; try omega)
      ·exact resV (by simp at *; simp [szMon, szThen, *]; try omega)
theorem laws_szMonS_f (xs : List VMon) (n : Int) (h1 : 0 ≤ n) (h2 : n ≤ 1048576) : Fun Tryz.prog 95 [L 9 (xs.map dMon), I n] (RV (.int .i64 (szMonS xs n))) := by
 refine Fun.w 27 Tryz.func95 fun w g0 hM => ?_
 have hm0 := hM.1.map
 refine len ?_
 refine rng ?_
 refine spl (fun hb => ?_) (fun hb => ?_)
 ·exact resV (by simp at hb; unfold szMonS; rw [if_pos (by omega)])
 ·refine loopW [] [] [] (fun ((k, m) : Nat × Int) => [.set 0 (L 9 (xs.map dMon)), .set 1 (I m), .set 5 (I k)]) (fun ((k, m) : Nat × Int) => []) (fun ((k, m) : Nat × Int) => k ≤ xs.length ∧ 0 ≤ m ∧ m ≤ n ∧ szMonS xs n = szFold szMon (xs.drop k) m) (fun ((k, m) : Nat × Int) => xs.length - k) (0, n - xs.length) ((by simp at hb; refine ⟨by omega, by omega, by omega, ?_⟩; unfold szMonS; rw [if_neg (by omega), List.drop_zero])) ?_
  refine ⟨hdw, fun ⟨k, m⟩ hyp N1 hN1 => ?_⟩
  have hyp : k ≤ xs.length ∧ 0 ≤ m ∧ m ≤ n ∧ szMonS xs n = szFold szMon (xs.drop k) m := hyp
  refine len ?_
  refine spl (fun hb => ?_) (fun hb => ?_)
  ·have hk : k < xs.length := by simpa using hb
   obtain ⟨x, hx⟩ := at_of (xs := xs) (k := k) hk
   have hs := szFold_drop (f := szMon) hx m
   refine ixm hx ?_
   refine callP (laws_szMon_f x m hyp.2.1 (by omega)).k ?_
   have hz := (szMon_ok x m)
   refine spl (fun hb => ?_) (fun hb => ?_)
   ·refine hN1 _ _ _ ?_
    exact resV (by simp at hb; rw [hyp.2.2.2, hs, if_pos hb])
   ·refine rng ?_
    refine hN1 _ _ _ ?_
    refine nxt [] (k + 1, szMon x m) (by (simp at hb; have hz := hz (by omega); refine ⟨by omega, by omega, by omega, ?_⟩; rw [hyp.2.2.2, hs, if_neg (by omega)]))
  ·refine hN1 _ _ _ ?_
   exact resV (by simp at hb; rw [hyp.2.2.2, List.drop_eq_nil_of_le hb]; rfl)
theorem laws_szEntryS_f (xs : List VEntry) (n : Int) (h1 : 0 ≤ n) (h2 : n ≤ 1048576) : Fun Tryz.prog 96 [L 4 (xs.map dEntry), I n] (RV (.int .i64 (szEntryS xs n))) := by
 refine Fun.w 12 Tryz.func96 fun w g0 hM => ?_
 have hm0 := hM.1.map
 refine len ?_
 refine rng ?_
 refine spl (fun hb => ?_) (fun hb => ?_)
 ·exact resV (by simp at hb; unfold szEntryS; rw [if_pos (by omega)])
 ·exact resV (by simp at hb; unfold szEntryS; rw [if_neg (by omega)])
theorem laws_szHost_f (x : VHost) (n : Int) (h1 : 0 ≤ n) (h2 : n ≤ 1048576) : Fun Tryz.prog 22 [A (rHost x), I n] (RV (.int .i64 (szHost x n))) := by
 refine Fun.w 30 Tryz.func22 fun w g0 _ => ?_
 refine callP (laws_szIntSS_f x.Memory (n) (by (try simp at *); omega) (by (try simp at *); omega)).k ?_
 refine spl (fun hb => ?_) (fun hb => ?_)
 ·exact resV (by simp at *; simp [szHost, szThen, *]; try omega)
 ·refine callP (laws_szMonS_f x.Mons (szIntSS x.Memory (n)) (by (try simp at *); have e0 := szIntSS_le x.Memory (n) (by omega); omega) (by (try simp at *); have e0 := szIntSS_le x.Memory (n) (by omega); omega)).k ?_
  refine spl (fun hb => ?_) (fun hb => ?_)
  ·exact resV (by simp at *; simp [szHost, szThen, *]; try omega)
  ·refine callP (laws_szEntryS_f x.Buffer (szMonS x.Mons (szIntSS x.Memory (n))) (by (try simp at *); have e0 := szIntSS_le x.Memory (n) (by omega); have e1 := szMonS_le x.Mons (szIntSS x.Memory (n)) (by omega); omega) (by (try simp at *); have e0 := szIntSS_le x.Memory (n) (by omega); have e1 := szMonS_le x.Mons (szIntSS x.Memory (n)) (by omega); omega)).k ?_
   refine spl (fun hb => ?_) (fun hb => ?_)
   ·exact resV (by simp at *; simp [szHost, szThen, *]; try omega)
   ·refine callP (laws_szEntryS_f x.IoBuffer (szEntryS x.Buffer (szMonS x.Mons (szIntSS x.Memory (n)))) (by (try simp at *); have e0 := szIntSS_le x.Memory (n) (by omega); have e1 := szMonS_le x.Mons (szIntSS x.Memory (n)) (by omega); have e2 := szEntryS_le x.Buffer (szMonS x.Mons (szIntSS x.Memory (n))) (by omega); omega) (by (try simp at *); have e0 := szIntSS_le x.Memory (n) (by omega); have e1 := szMonS_le x.Mons (szIntSS x.Memory (n)) (by omega); have e2 := szEntryS_le x.Buffer (szMonS x.Mons (szIntSS x.Memory (n))) (by omega); omega)).k ?_
    refine spl (fun hb => ?_) (fun hb => ?_)
    ·exact resV (by simp at *; simp [szHost, szThen, *]; try omega)
    ·exact resV (by simp at *; simp [szHost, szThen, *]; try omega)
theorem laws_eqIntS_f (xs ys : List Int) : Fun Tryz.prog 45 [L 1 (xs.map dInt), L 1 (ys.map dInt)] (RV (.bool (decide (xs = ys)))) := by
 refine Fun.w 26 Tryz.func45 fun w g0 hM => ?_
 have hm0 := hM.1.map
 refine len ?_
 refine len ?_
 refine spl (fun hb => ?_) (fun hb => ?_)
 ·exact resV (by simp at *; intro e; subst e; simp at hb)
 ·have hl : xs.length = ys.length := by simp at hb; omega
  refine loopW [] [] [] (fun (k : Nat) => [.set 0 (L 1 (xs.map dInt)), .set 1 (L 1 (ys.map dInt)), .set 5 (I k)]) (fun (k : Nat) => []) (fun (k : Nat) => k ≤ xs.length ∧ xs.take k = ys.take k) (fun (k : Nat) => xs.length - k) (0) (by simp) ?_
  refine ⟨hdw, fun k hyp N1 hN1 => ?_⟩
  have hyp : k ≤ xs.length ∧ xs.take k = ys.take k := hyp
  refine len ?_
  refine spl (fun hb => ?_) (fun hb => ?_)
  ·have hk : k < xs.length := by simpa using hb
   obtain ⟨x, hx⟩ := at_of (xs := xs) (k := k) hk
   obtain ⟨y, hy⟩ := at_of (xs := ys) (k := k) (by omega)
   refine regQ ?_
   refine ixm hx ?_
   refine ixm hy ?_
   refine spl (fun hb => ?_) (fun hb => ?_)
   ·refine hN1 _ _ _ ?_
    exact resV (by simp at *; exact eq_off hx hy hb)
   ·refine rng ?_
    refine hN1 _ _ _ ?_
    refine nxt [] (k + 1) (⟨by omega, eq_step hyp.2 hx (by simp at hb; rw [hb]; exact hy)⟩)
  ·refine hN1 _ _ _ ?_
   exact resV (by simp at *; exact eq_all hl hyp.2 hb)
theorem laws_eqIntSS_f (xs ys : List (List Int)) : Fun Tryz.prog 85 [L 1 (xs.map dIntS), L 1 (ys.map dIntS)] (RV (.bool (decide (xs = ys)))) := by
 refine Fun.w 27 Tryz.func85 fun w g0 hM => ?_
 have hm0 := hM.1.map
 refine len ?_
 refine len ?_
 refine spl (fun hb => ?_) (fun hb => ?_)
 ·exact resV (by simp at *; intro e; subst e; simp at hb)
 ·have hl : xs.length = ys.length := by simp at hb; omega
  refine loopW [] [] [] (fun (k : Nat) => [.set 0 (L 1 (xs.map dIntS)), .set 1 (L 1 (ys.map dIntS)), .set 5 (I k)]) (fun (k : Nat) => []) (fun (k : Nat) => k ≤ xs.length ∧ xs.take k = ys.take k) (fun (k : Nat) => xs.length - k) (0) (by simp) ?_
  refine ⟨hdw, fun k hyp N1 hN1 => ?_⟩
  have hyp : k ≤ xs.length ∧ xs.take k = ys.take k := hyp
  refine len ?_
  refine spl (fun hb => ?_) (fun hb => ?_)
  ·have hk : k < xs.length := by simpa using hb
   obtain ⟨x, hx⟩ := at_of (xs := xs) (k := k) hk
   obtain ⟨y, hy⟩ := at_of (xs := ys) (k := k) (by omega)
   refine regQ ?_
   refine ixm hx ?_
   refine ixm hy ?_
   refine callQ (laws_eqIntS_f x y).k ?_
   refine spl (fun hb => ?_) (fun hb => ?_)
   ·refine hN1 _ _ _ ?_
    exact resV (by simp at *; exact eq_off hx hy hb)
   ·refine rng ?_
    refine hN1 _ _ _ ?_
    refine nxt [] (k + 1) (⟨by omega, eq_step hyp.2 hx (by simp at hb; rw [hb]; exact hy)⟩)
  ·refine hN1 _ _ _ ?_
   exact resV (by simp at *; exact eq_all hl hyp.2 hb)
theorem laws_eqSlot_f (x y : VSlot) : Fun Tryz.prog 214 [A (rSlot x), A (rSlot y)] (RV (.bool (decide (x = y)))) := by
 refine Fun.w 15 Tryz.func214 fun w g0 _ => ?_
 refine spl (fun hb => ?_) (fun hb => ?_)
 ·exact resV (by cases x; cases y; simp_all)
 ·refine spl (fun hb => ?_) (fun hb => ?_)
  ·exact resV (by cases x; cases y; simp_all)
  ·exact resV (by cases x; cases y; simp_all)
theorem laws_eqSlotS_f (xs ys : List VSlot) : Fun Tryz.prog 118 [L 2 (xs.map dSlot), L 2 (ys.map dSlot)] (RV (.bool (decide (xs = ys)))) := by
 refine Fun.w 27 Tryz.func118 fun w g0 hM => ?_
 have hm0 := hM.1.map
 refine len ?_
 refine len ?_
 refine spl (fun hb => ?_) (fun hb => ?_)
 ·exact resV (by simp at *; intro e; subst e; simp at hb)
 ·have hl : xs.length = ys.length := by simp at hb; omega
  refine loopW [] [] [] (fun (k : Nat) => [.set 0 (L 2 (xs.map dSlot)), .set 1 (L 2 (ys.map dSlot)), .set 5 (I k)]) (fun (k : Nat) => []) (fun (k : Nat) => k ≤ xs.length ∧ xs.take k = ys.take k) (fun (k : Nat) => xs.length - k) (0) (by simp) ?_
  refine ⟨hdw, fun k hyp N1 hN1 => ?_⟩
  have hyp : k ≤ xs.length ∧ xs.take k = ys.take k := hyp
  refine len ?_
  refine spl (fun hb => ?_) (fun hb => ?_)
  ·have hk : k < xs.length := by simpa using hb
   obtain ⟨x, hx⟩ := at_of (xs := xs) (k := k) hk
   obtain ⟨y, hy⟩ := at_of (xs := ys) (k := k) (by omega)
   refine regQ ?_
   refine ixm hx ?_
   refine ixm hy ?_
   refine callQ (laws_eqSlot_f x y).k ?_
   refine spl (fun hb => ?_) (fun hb => ?_)
   ·refine hN1 _ _ _ ?_
    exact resV (by simp at *; exact eq_off hx hy hb)
   ·refine rng ?_
    refine hN1 _ _ _ ?_
    refine nxt [] (k + 1) (⟨by omega, eq_step hyp.2 hx (by simp at hb; rw [hb]; exact hy)⟩)
  ·refine hN1 _ _ _ ?_
   exact resV (by simp at *; exact eq_all hl hyp.2 hb)
theorem laws_eqBoolS_f (xs ys : List Bool) : Fun Tryz.prog 119 [L 1 (xs.map dBool), L 1 (ys.map dBool)] (RV (.bool (decide (xs = ys)))) := by
 refine Fun.w 26 Tryz.func119 fun w g0 hM => ?_
 have hm0 := hM.1.map
 refine len ?_
 refine len ?_
 refine spl (fun hb => ?_) (fun hb => ?_)
 ·exact resV (by simp at *; intro e; subst e; simp at hb)
 ·have hl : xs.length = ys.length := by simp at hb; omega
  refine loopW [] [] [] (fun (k : Nat) => [.set 0 (L 1 (xs.map dBool)), .set 1 (L 1 (ys.map dBool)), .set 5 (I k)]) (fun (k : Nat) => []) (fun (k : Nat) => k ≤ xs.length ∧ xs.take k = ys.take k) (fun (k : Nat) => xs.length - k) (0) (by simp) ?_
  refine ⟨hdw, fun k hyp N1 hN1 => ?_⟩
  have hyp : k ≤ xs.length ∧ xs.take k = ys.take k := hyp
  refine len ?_
  refine spl (fun hb => ?_) (fun hb => ?_)
  ·have hk : k < xs.length := by simpa using hb
   obtain ⟨x, hx⟩ := at_of (xs := xs) (k := k) hk
   obtain ⟨y, hy⟩ := at_of (xs := ys) (k := k) (by omega)
   refine regQ ?_
   refine ixm hx ?_
   refine ixm hy ?_
   refine spl (fun hb => ?_) (fun hb => ?_)
   ·refine hN1 _ _ _ ?_
    exact resV (by simp at *; exact eq_off hx hy hb)
   ·refine rng ?_
    refine hN1 _ _ _ ?_
    refine nxt [] (k + 1) (⟨by omega, eq_step hyp.2 hx (by simp at hb; rw [hb]; exact hy)⟩)
  ·refine hN1 _ _ _ ?_
   exact resV (by simp at *; exact eq_all hl hyp.2 hb)
theorem laws_eqIns_f (x y : VIns) : Fun Tryz.prog 349 [A (rIns x), A (rIns y)] (RV (.bool (decide (x = y)))) := by
 refine Fun.w 15 Tryz.func349 fun w g0 _ => ?_
 refine spl (fun hb => ?_) (fun hb => ?_)
 ·exact resV (by cases x; cases y; simp_all)
 ·refine spl (fun hb => ?_) (fun hb => ?_)
  ·exact resV (by cases x; cases y; simp_all)
  ·exact resV (by cases x; cases y; simp_all)
theorem laws_eqInsS_f (xs ys : List VIns) : Fun Tryz.prog 254 [L 2 (xs.map dIns), L 2 (ys.map dIns)] (RV (.bool (decide (xs = ys)))) := by
 refine Fun.w 27 Tryz.func254 fun w g0 hM => ?_
 have hm0 := hM.1.map
 refine len ?_
 refine len ?_
 refine spl (fun hb => ?_) (fun hb => ?_)
 ·exact resV (by simp at *; intro e; subst e; simp at hb)
 ·have hl : xs.length = ys.length := by simp at hb; omega
  refine loopW [] [] [] (fun (k : Nat) => [.set 0 (L 2 (xs.map dIns)), .set 1 (L 2 (ys.map dIns)), .set 5 (I k)]) (fun (k : Nat) => []) (fun (k : Nat) => k ≤ xs.length ∧ xs.take k = ys.take k) (fun (k : Nat) => xs.length - k) (0) (by simp) ?_
  refine ⟨hdw, fun k hyp N1 hN1 => ?_⟩
  have hyp : k ≤ xs.length ∧ xs.take k = ys.take k := hyp
  refine len ?_
  refine spl (fun hb => ?_) (fun hb => ?_)
  ·have hk : k < xs.length := by simpa using hb
   obtain ⟨x, hx⟩ := at_of (xs := xs) (k := k) hk
   obtain ⟨y, hy⟩ := at_of (xs := ys) (k := k) (by omega)
   refine regQ ?_
   refine ixm hx ?_
   refine ixm hy ?_
   refine callQ (laws_eqIns_f x y).k ?_
   refine spl (fun hb => ?_) (fun hb => ?_)
   ·refine hN1 _ _ _ ?_
    exact resV (by simp at *; exact eq_off hx hy hb)
   ·refine rng ?_
    refine hN1 _ _ _ ?_
    refine nxt [] (k + 1) (⟨by omega, eq_step hyp.2 hx (by simp at hb; rw [hb]; exact hy)⟩)
  ·refine hN1 _ _ _ ?_
   exact resV (by simp at *; exact eq_all hl hyp.2 hb)
theorem laws_eqCtl_f (x y : VCtl) : Fun Tryz.prog 302 [A (rCtl x), A (rCtl y)] (RV (.bool (decide (x = y)))) := by
 refine Fun.w 20 Tryz.func302 fun w g0 _ => ?_
 refine spl (fun hb => ?_) (fun hb => ?_)
 ·exact resV (by cases x; cases y; simp_all)
 ·refine spl (fun hb => ?_) (fun hb => ?_)
  ·exact resV (by cases x; cases y; simp_all)
  ·refine spl (fun hb => ?_) (fun hb => ?_)
   ·exact resV (by cases x; cases y; simp_all)
   ·exact resV (by cases x; cases y; simp_all)
theorem laws_eqExit_f (x y : VExit) : Fun Tryz.prog 303 [A (rExit x), A (rExit y)] (RV (.bool (decide (x = y)))) := by
 refine Fun.w 25 Tryz.func303 fun w g0 _ => ?_
 refine spl (fun hb => ?_) (fun hb => ?_)
 ·exact resV (by cases x; cases y; simp_all)
 ·refine spl (fun hb => ?_) (fun hb => ?_)
  ·exact resV (by cases x; cases y; simp_all)
  ·refine spl (fun hb => ?_) (fun hb => ?_)
   ·exact resV (by cases x; cases y; simp_all)
   ·refine spl (fun hb => ?_) (fun hb => ?_)
    ·exact resV (by cases x; cases y; simp_all)
    ·exact resV (by cases x; cases y; simp_all)
theorem laws_eqGuest_f (x y : VGuest) : Fun Tryz.prog 215 [A (rGuest x), A (rGuest y)] (RV (.bool (decide (x = y)))) := by
 refine Fun.w 61 Tryz.func215 fun w g0 _ => ?_
 refine callP (laws_eqInsS_f x.Prog y.Prog).k ?_
 refine spl (fun hb => ?_) (fun hb => ?_)
 ·exact resV (by cases x; cases y; simp_all)
 ·refine spl (fun hb => ?_) (fun hb => ?_)
  ·exact resV (by cases x; cases y; simp_all)
  ·refine spl (fun hb => ?_) (fun hb => ?_)
   ·exact resV (by cases x; cases y; simp_all)
   ·refine callP (laws_eqSlotS_f x.Written y.Written).k ?_
    refine spl (fun hb => ?_) (fun hb => ?_)
    ·exact resV (by cases x; cases y; simp_all)
    ·refine callP (laws_eqSlotS_f x.Live y.Live).k ?_
     refine spl (fun hb => ?_) (fun hb => ?_)
     ·exact resV (by cases x; cases y; simp_all)
     ·refine callP (laws_eqCtl_f x.Ctl y.Ctl).k ?_
      refine spl (fun hb => ?_) (fun hb => ?_)
      ·exact resV (by cases x; cases y; simp_all)
      ·refine spl (fun hb => ?_) (fun hb => ?_)
       ·exact resV (by cases x; cases y; simp_all)
       ·refine callP (laws_eqExit_f x.Exit y.Exit).k ?_
        refine spl (fun hb => ?_) (fun hb => ?_)
        ·exact resV (by cases x; cases y; simp_all)
        ·refine spl (fun hb => ?_) (fun hb => ?_)
         ·exact resV (by cases x; cases y; simp_all)
         ·refine callP (laws_eqIntS_f x.Seen y.Seen).k ?_
          refine spl (fun hb => ?_) (fun hb => ?_)
          ·exact resV (by cases x; cases y; simp_all)
          ·exact resV (by cases x; cases y; simp_all)
theorem laws_eqGuestS_f (xs ys : List VGuest) : Fun Tryz.prog 120 [L 15 (xs.map dGuest), L 15 (ys.map dGuest)] (RV (.bool (decide (xs = ys)))) := by
 refine Fun.w 27 Tryz.func120 fun w g0 hM => ?_
 have hm0 := hM.1.map
 refine len ?_
 refine len ?_
 refine spl (fun hb => ?_) (fun hb => ?_)
 ·exact resV (by simp at *; intro e; subst e; simp at hb)
 ·have hl : xs.length = ys.length := by simp at hb; omega
  refine loopW [] [] [] (fun (k : Nat) => [.set 0 (L 15 (xs.map dGuest)), .set 1 (L 15 (ys.map dGuest)), .set 5 (I k)]) (fun (k : Nat) => []) (fun (k : Nat) => k ≤ xs.length ∧ xs.take k = ys.take k) (fun (k : Nat) => xs.length - k) (0) (by simp) ?_
  refine ⟨hdw, fun k hyp N1 hN1 => ?_⟩
  have hyp : k ≤ xs.length ∧ xs.take k = ys.take k := hyp
  refine len ?_
  refine spl (fun hb => ?_) (fun hb => ?_)
  ·have hk : k < xs.length := by simpa using hb
   obtain ⟨x, hx⟩ := at_of (xs := xs) (k := k) hk
   obtain ⟨y, hy⟩ := at_of (xs := ys) (k := k) (by omega)
   refine regQ ?_
   refine ixm hx ?_
   refine ixm hy ?_
   refine callQ (laws_eqGuest_f x y).k ?_
   refine spl (fun hb => ?_) (fun hb => ?_)
   ·refine hN1 _ _ _ ?_
    exact resV (by simp at *; exact eq_off hx hy hb)
   ·refine rng ?_
    refine hN1 _ _ _ ?_
    refine nxt [] (k + 1) (⟨by omega, eq_step hyp.2 hx (by simp at hb; rw [hb]; exact hy)⟩)
  ·refine hN1 _ _ _ ?_
   exact resV (by simp at *; exact eq_all hl hyp.2 hb)
theorem laws_eqKept_f (x y : VKept) : Fun Tryz.prog 216 [A (rKept x), A (rKept y)] (RV (.bool (decide (x = y)))) := by
 refine Fun.w 17 Tryz.func216 fun w g0 _ => ?_
 refine callP (laws_eqBoolS_f x.Known y.Known).k ?_
 refine spl (fun hb => ?_) (fun hb => ?_)
 ·exact resV (by cases x; cases y; simp_all)
 ·refine callP (laws_eqSlotS_f x.Slots y.Slots).k ?_
  refine spl (fun hb => ?_) (fun hb => ?_)
  ·exact resV (by cases x; cases y; simp_all)
  ·exact resV (by cases x; cases y; simp_all)
theorem laws_eqKeptS_f (xs ys : List VKept) : Fun Tryz.prog 121 [L 2 (xs.map dKept), L 2 (ys.map dKept)] (RV (.bool (decide (xs = ys)))) := by
 refine Fun.w 27 Tryz.func121 fun w g0 hM => ?_
 have hm0 := hM.1.map
 refine len ?_
 refine len ?_
 refine spl (fun hb => ?_) (fun hb => ?_)
 ·exact resV (by simp at *; intro e; subst e; simp at hb)
 ·have hl : xs.length = ys.length := by simp at hb; omega
  refine loopW [] [] [] (fun (k : Nat) => [.set 0 (L 2 (xs.map dKept)), .set 1 (L 2 (ys.map dKept)), .set 5 (I k)]) (fun (k : Nat) => []) (fun (k : Nat) => k ≤ xs.length ∧ xs.take k = ys.take k) (fun (k : Nat) => xs.length - k) (0) (by simp) ?_
  refine ⟨hdw, fun k hyp N1 hN1 => ?_⟩
  have hyp : k ≤ xs.length ∧ xs.take k = ys.take k := hyp
  refine len ?_
  refine spl (fun hb => ?_) (fun hb => ?_)
  ·have hk : k < xs.length := by simpa using hb
   obtain ⟨x, hx⟩ := at_of (xs := xs) (k := k) hk
   obtain ⟨y, hy⟩ := at_of (xs := ys) (k := k) (by omega)
   refine regQ ?_
   refine ixm hx ?_
   refine ixm hy ?_
   refine callQ (laws_eqKept_f x y).k ?_
   refine spl (fun hb => ?_) (fun hb => ?_)
   ·refine hN1 _ _ _ ?_
    exact resV (by simp at *; exact eq_off hx hy hb)
   ·refine rng ?_
    refine hN1 _ _ _ ?_
    refine nxt [] (k + 1) (⟨by omega, eq_step hyp.2 hx (by simp at hb; rw [hb]; exact hy)⟩)
  ·refine hN1 _ _ _ ?_
   exact resV (by simp at *; exact eq_all hl hyp.2 hb)
theorem laws_eqMon_f (x y : VMon) : Fun Tryz.prog 28 [A (rMon x), A (rMon y)] (RV (.bool (decide (x = y)))) := by
 refine Fun.w 56 Tryz.func28 fun w g0 _ => ?_
 refine callP (laws_eqSlotS_f x.Outer y.Outer).k ?_
 refine spl (fun hb => ?_) (fun hb => ?_)
 ·exact resV (by cases x; cases y; simp_all)
 ·refine callP (laws_eqIntSS_f x.Out y.Out).k ?_
  refine spl (fun hb => ?_) (fun hb => ?_)
  ·exact resV (by cases x; cases y; simp_all)
  ·refine callP (laws_eqBoolS_f x.Dirty y.Dirty).k ?_
   refine spl (fun hb => ?_) (fun hb => ?_)
   ·exact resV (by cases x; cases y; simp_all)
   ·refine callP (laws_eqGuestS_f x.Guests y.Guests).k ?_
    refine spl (fun hb => ?_) (fun hb => ?_)
    ·exact resV (by cases x; cases y; simp_all)
    ·refine callP (laws_eqIntS_f x.Outs y.Outs).k ?_
     refine spl (fun hb => ?_) (fun hb => ?_)
     ·exact resV (by cases x; cases y; simp_all)
     ·refine spl (fun hb => ?_) (fun hb => ?_)
      ·exact resV (by cases x; cases y; simp_all)
      ·refine spl (fun hb => ?_) (fun hb => ?_)
       ·exact resV (by cases x; cases y; simp_all)
       ·refine callP (laws_eqKeptS_f x.Tables y.Tables).k ?_
        refine spl (fun hb => ?_) (fun hb => ?_)
        ·exact resV (by cases x; cases y; simp_all)
        ·refine spl (fun hb => ?_) (fun hb => ?_)
         ·exact resV (by cases x; cases y; simp_all)
         ·exact resV (by cases x; cases y; simp_all)
theorem laws_eqMonS_f (xs ys : List VMon) : Fun Tryz.prog 86 [L 9 (xs.map dMon), L 9 (ys.map dMon)] (RV (.bool (decide (xs = ys)))) := by
 refine Fun.w 27 Tryz.func86 fun w g0 hM => ?_
 have hm0 := hM.1.map
 refine len ?_
 refine len ?_
 refine spl (fun hb => ?_) (fun hb => ?_)
 ·exact resV (by simp at *; intro e; subst e; simp at hb)
 ·have hl : xs.length = ys.length := by simp at hb; omega
  refine loopW [] [] [] (fun (k : Nat) => [.set 0 (L 9 (xs.map dMon)), .set 1 (L 9 (ys.map dMon)), .set 5 (I k)]) (fun (k : Nat) => []) (fun (k : Nat) => k ≤ xs.length ∧ xs.take k = ys.take k) (fun (k : Nat) => xs.length - k) (0) (by simp) ?_
  refine ⟨hdw, fun k hyp N1 hN1 => ?_⟩
  have hyp : k ≤ xs.length ∧ xs.take k = ys.take k := hyp
  refine len ?_
  refine spl (fun hb => ?_) (fun hb => ?_)
  ·have hk : k < xs.length := by simpa using hb
   obtain ⟨x, hx⟩ := at_of (xs := xs) (k := k) hk
   obtain ⟨y, hy⟩ := at_of (xs := ys) (k := k) (by omega)
   refine regQ ?_
   refine ixm hx ?_
   refine ixm hy ?_
   refine callQ (laws_eqMon_f x y).k ?_
   refine spl (fun hb => ?_) (fun hb => ?_)
   ·refine hN1 _ _ _ ?_
    exact resV (by simp at *; exact eq_off hx hy hb)
   ·refine rng ?_
    refine hN1 _ _ _ ?_
    refine nxt [] (k + 1) (⟨by omega, eq_step hyp.2 hx (by simp at hb; rw [hb]; exact hy)⟩)
  ·refine hN1 _ _ _ ?_
   exact resV (by simp at *; exact eq_all hl hyp.2 hb)
theorem laws_eqEntry_f (x y : VEntry) : Fun Tryz.prog 189 [A (rEntry x), A (rEntry y)] (RV (.bool (decide (x = y)))) := by
 refine Fun.w 25 Tryz.func189 fun w g0 _ => ?_
 refine spl (fun hb => ?_) (fun hb => ?_)
 ·exact resV (by cases x; cases y; simp_all)
 ·refine spl (fun hb => ?_) (fun hb => ?_)
  ·exact resV (by cases x; cases y; simp_all)
  ·refine spl (fun hb => ?_) (fun hb => ?_)
   ·exact resV (by cases x; cases y; simp_all)
   ·refine spl (fun hb => ?_) (fun hb => ?_)
    ·exact resV (by cases x; cases y; simp_all)
    ·exact resV (by cases x; cases y; simp_all)
theorem laws_eqEntryS_f (xs ys : List VEntry) : Fun Tryz.prog 87 [L 4 (xs.map dEntry), L 4 (ys.map dEntry)] (RV (.bool (decide (xs = ys)))) := by
 refine Fun.w 27 Tryz.func87 fun w g0 hM => ?_
 have hm0 := hM.1.map
 refine len ?_
 refine len ?_
 refine spl (fun hb => ?_) (fun hb => ?_)
 ·exact resV (by simp at *; intro e; subst e; simp at hb)
 ·have hl : xs.length = ys.length := by simp at hb; omega
  refine loopW [] [] [] (fun (k : Nat) => [.set 0 (L 4 (xs.map dEntry)), .set 1 (L 4 (ys.map dEntry)), .set 5 (I k)]) (fun (k : Nat) => []) (fun (k : Nat) => k ≤ xs.length ∧ xs.take k = ys.take k) (fun (k : Nat) => xs.length - k) (0) (by simp) ?_
  refine ⟨hdw, fun k hyp N1 hN1 => ?_⟩
  have hyp : k ≤ xs.length ∧ xs.take k = ys.take k := hyp
  refine len ?_
  refine spl (fun hb => ?_) (fun hb => ?_)
  ·have hk : k < xs.length := by simpa using hb
   obtain ⟨x, hx⟩ := at_of (xs := xs) (k := k) hk
   obtain ⟨y, hy⟩ := at_of (xs := ys) (k := k) (by omega)
   refine regQ ?_
   refine ixm hx ?_
   refine ixm hy ?_
   refine callQ (laws_eqEntry_f x y).k ?_
   refine spl (fun hb => ?_) (fun hb => ?_)
   ·refine hN1 _ _ _ ?_
    exact resV (by simp at *; exact eq_off hx hy hb)
   ·refine rng ?_
    refine hN1 _ _ _ ?_
    refine nxt [] (k + 1) (⟨by omega, eq_step hyp.2 hx (by simp at hb; rw [hb]; exact hy)⟩)
  ·refine hN1 _ _ _ ?_
   exact resV (by simp at *; exact eq_all hl hyp.2 hb)
theorem laws_eqHost_f (x y : VHost) : Fun Tryz.prog 17 [A (rHost x), A (rHost y)] (RV (.bool (decide (x = y)))) := by
 refine Fun.w 29 Tryz.func17 fun w g0 _ => ?_
 refine callP (laws_eqIntSS_f x.Memory y.Memory).k ?_
 refine spl (fun hb => ?_) (fun hb => ?_)
 ·exact resV (by cases x; cases y; simp_all)
 ·refine callP (laws_eqMonS_f x.Mons y.Mons).k ?_
  refine spl (fun hb => ?_) (fun hb => ?_)
  ·exact resV (by cases x; cases y; simp_all)
  ·refine callP (laws_eqEntryS_f x.Buffer y.Buffer).k ?_
   refine spl (fun hb => ?_) (fun hb => ?_)
   ·exact resV (by cases x; cases y; simp_all)
   ·refine callP (laws_eqEntryS_f x.IoBuffer y.IoBuffer).k ?_
    refine spl (fun hb => ?_) (fun hb => ?_)
    ·exact resV (by cases x; cases y; simp_all)
    ·exact resV (by cases x; cases y; simp_all)
end Go.Proofs.YteelmdpahpggkaaGreat.T

