/- Decimal and InsLine: both sides' walks. PRINTED by gen.py out of spec_ins2.py. -/
import Derived.Test.YtfiakjbnfaaamaaDoorT3
import Derived.Test.YtfiakjbnfaaamaaDoorWa
namespace Go.Proofs.YtfiakjbnfaaamaaDoor.T
open Go
set_option linter.unusedVariables false
set_option linter.unusedSimpArgs false
set_option maxRecDepth 100000
set_option maxHeartbeats 1000000

theorem dec_start {n : Int} (h : n ≠ 0) : str (Lib.decDigits n.natAbs) = str (pdec n.natAbs) ++ ⟨#[]⟩ := by
  unfold pdec
  rw [if_neg (by omega)]
  apply ByteArray.ext
  simp [str]
theorem dec_next {n v : Int} {s : ByteArray} (hv : v ≠ 0) (h : str (Lib.decDigits n.natAbs) = str (pdec v.natAbs) ++ s) {d : Int} (hd : d.natAbs = v.natAbs % 10) (h0 : 0 ≤ d) :
    str (Lib.decDigits n.natAbs) = str (pdec (v.tdiv 10).natAbs) ++ (strOfNums [figure d] ++ s) := by
  have h1 : (v.tdiv 10).natAbs = v.natAbs / 10 := by rw [Int.natAbs_tdiv]; rfl
  have h2 : figure d = ((48 + v.natAbs % 10 : Nat) : Int) := by unfold figure; rw [if_pos (by omega)]; omega
  rw [h, pdec_step (show v.natAbs ≠ 0 by omega), h1, strOfNums_one h2 (by omega), str_app]
  apply ByteArray.ext
  simp [Array.append_assoc]
theorem dec_done {n : Int} {s : ByteArray} (h : str (Lib.decDigits n.natAbs) = str (pdec (0 : Int).natAbs) ++ s) (h0 : 0 ≤ n) : s = dec n := by
  have e : str (pdec (0 : Int).natAbs) ++ s = s := by
    apply ByteArray.ext
    simp [str, pdec]
  rw [e] at h
  unfold dec Lib.itoa
  rw [← h, if_neg (by omega)]
  congr 2
  omega
theorem dec_neg {n : Int} {s : ByteArray} (h : str (Lib.decDigits n.natAbs) = str (pdec (0 : Int).natAbs) ++ s) (h0 : n < 0) : (⟨#[45]⟩ : ByteArray) ++ s = dec n := by
  have e : str (pdec (0 : Int).natAbs) ++ s = s := by
    apply ByteArray.ext
    simp [str, pdec]
  rw [e] at h
  unfold dec Lib.itoa
  rw [← h, if_pos (by omega)]
  apply ByteArray.ext
  simp [str]
theorem dec_suf {n v : Int} {s : ByteArray} (h : str (Lib.decDigits n.natAbs) = str (pdec v.natAbs) ++ s) (h0 : I64 n) : s.size ≤ 20 := by
  have h1 := congrArg ByteArray.size h
  rw [str_size, ByteArray.size_append, Lib.decDigits_length] at h1
  have := nDigits_le 19 n.natAbs (by omega)
  omega
theorem tdiv_le {v : Int} : (v.tdiv 10).natAbs = v.natAbs / 10 := by rw [Int.natAbs_tdiv]; rfl
theorem tmod_abs {v : Int} : (v.tmod 10).natAbs = v.natAbs % 10 := by rw [Int.natAbs_tmod]; rfl
theorem dec_zero : (⟨#[48]⟩ : ByteArray) = dec 0 := by
  unfold dec Lib.itoa
  rw [if_neg (by omega), show Int.toNat 0 = 0 from rfl, Lib.decDigits_one (by omega)]
  rfl
-- loop.example/g00975/spec.Decimal: params ['int'] results ['string'] ('arr', [('app', 'Go.ResultVar.tmp', ['2'])])
-- loop.example/g00975/impl.Decimal: params ['int'] results ['string'] ('arr', [('app', 'Go.ResultVar.tmp', ['2'])])
theorem impl_Decimal_f (n : Int) (hn : I64 n) : FunW (Tab) Tryd.prog 7 [I n] (RV (.string (dec n))) := by
  refine FunW.of (Tab.keep) Tryd.func7 rfl (by simp [Tryd.ntmps7]) fun w g0 hW => ?_
  simp only [Tryd.ntmps7, List.length_cons, List.length_nil, Nat.reduceAdd, Nat.reduceSub, List.replicate, List.cons_append, List.nil_append]
  refine TC.seq ?_
  -- region 0
  refine TC.region ?_
  refine TL.vE (Val.assign 1 rfl rfl) ?_
  refine TL.nil ?_
  show TC _ _ _ _ _ _
  refine TC.seq ?_
  -- region 1
  refine TC.region ?_
  refine TL.vE (Val.move 1 rfl rfl) ?_
  refine TL.cF ((itoa_f n hn.1 hn.2).k) ?_
  refine TL.vE (Val.assign 1 rfl rfl) ?_
  refine TL.nil ?_
  show TC _ _ _ _ _ _
  refine TC.ret ?_
  exact ⟨.inr rfl, [_], [_], _, rfl, by decide, rfl, by simp [refV, refC, valC], rfl, rfl⟩
end Go.Proofs.YtfiakjbnfaaamaaDoor.T

