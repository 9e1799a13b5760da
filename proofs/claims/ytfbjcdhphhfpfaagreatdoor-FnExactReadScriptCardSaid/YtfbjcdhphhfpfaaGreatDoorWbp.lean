/- Decimal and InsLine: both sides' walks. PRINTED by gen.py out of spec_ins2.py. -/
import Derived.Test.YtfbjcdhphhfpfaaGreatDoorT3p
import Derived.Test.YtfbjcdhphhfpfaaGreatDoorWap
namespace Go.Proofs.YtfbjcdhphhfpfaaGreatDoor.T
open Go
set_option linter.unusedVariables false
set_option linter.unusedSimpArgs false
set_option maxRecDepth 100000
set_option maxHeartbeats 1000000

theorem dec_start {n : Int} (h : n ≠ 0) : str (Lib.decDigits n.natAbs) = str (pdec n.natAbs) ++ ⟨#[]⟩ := by
  unfold pdec
  rw [if_neg (by omega)]
  apply ByteArray.ext
  simp [str]
theorem dec_next {n v : Int} {s : ByteArray} (hv : v ≠ 0) (h : str (Lib.decDigits n.natAbs) = str (pdec v.natAbs) ++ s) {d : Int} (hd : d.natAbs = v.natAbs % 10) (h0 : 0 ≤ d) :
    str (Lib.decDigits n.natAbs) = str (pdec (v.tdiv 10).natAbs) ++ (strOfNums [figure d] ++ s) := by
  have h1 : (v.tdiv 10).natAbs = v.natAbs / 10 := by rw [Int.natAbs_tdiv]; rfl
  have h2 : figure d = ((48 + v.natAbs % 10 : Nat) : Int) := by unfold figure; rw [if_pos (by omega)]; omega
  rw [h, pdec_step (show v.natAbs ≠ 0 by omega), h1, strOfNums_one h2 (by omega), str_app]
  apply ByteArray.ext
  simp [Array.append_assoc]
theorem dec_done {n : Int} {s : ByteArray} (h : str (Lib.decDigits n.natAbs) = str (pdec (0 : Int).natAbs) ++ s) (h0 : 0 ≤ n) : s = dec n := by
  have e : str (pdec (0 : Int).natAbs) ++ s = s := by
    apply ByteArray.ext
    simp [str, pdec]
  rw [e] at h
  unfold dec Lib.itoa
  rw [← h, if_neg (by omega)]
  congr 2
  omega
theorem dec_neg {n : Int} {s : ByteArray} (h : str (Lib.decDigits n.natAbs) = str (pdec (0 : Int).natAbs) ++ s) (h0 : n < 0) : (⟨#[45]⟩ : ByteArray) ++ s = dec n := by
  have e : str (pdec (0 : Int).natAbs) ++ s = s := by
    apply ByteArray.ext
    simp [str, pdec]
  rw [e] at h
  unfold dec Lib.itoa
  rw [← h, if_pos (by omega)]
  apply ByteArray.ext
  simp [str]
theorem dec_suf {n v : Int} {s : ByteArray} (h : str (Lib.decDigits n.natAbs) = str (pdec v.natAbs) ++ s) (h0 : I64 n) : s.size ≤ 20 := by
  have h1 := congrArg ByteArray.size h
  rw [str_size, ByteArray.size_append, Lib.decDigits_length] at h1
  have := nDigits_le 19 n.natAbs (by omega)
  omega
theorem tdiv_le {v : Int} : (v.tdiv 10).natAbs = v.natAbs / 10 := by rw [Int.natAbs_tdiv]; rfl
theorem tmod_abs {v : Int} : (v.tmod 10).natAbs = v.natAbs % 10 := by rw [Int.natAbs_tmod]; rfl
theorem dec_zero : (⟨#[48]⟩ : ByteArray) = dec 0 := by
  unfold dec Lib.itoa
  rw [if_neg (by omega), show Int.toNat 0 = 0 from rfl, Lib.decDigits_one (by omega)]
  rfl
theorem spec_Decimal_f (n : Int) (hn : I64 n) : Fun Tryz.prog 44 [I n] (RV (.string (dec n))) := by
  refine Fun.of Tryz.func44 rfl (by simp [Tryz.ntmps44]) fun w g0 => ?_
  simp only [Tryz.ntmps44, List.length_cons, List.length_nil, Nat.reduceAdd, Nat.reduceSub, List.replicate, List.cons_append, List.nil_append]
  refine TC.seq ?_
  refine TC.region ?_
  refine TL.vE (Val.assign 1 rfl rfl) ?_
  refine TL.nil ?_
  show TC _ _ _ _ _ _
  refine TC.seq ?_
  refine TC.seq ?_
  refine TC.region ?_
  refine TL.vE (Val.move 1 rfl rfl) ?_
  refine TL.vE (Val.eql rfl rfl rfl) ?_
  refine TL.nil ?_
  show TC _ _ _ _ _ _
  refine TC.cond rfl (fun hb => ?_) (fun hb => ?_)
  · have hk7 := hb
    refine TC.seq ?_
    obtain rfl : n = 0 := by simpa using hb
    refine TC.region ?_
    refine TL.vE (Val.assign 1 rfl rfl) ?_
    refine TL.nil ?_
    show TC _ _ _ _ _ _
    refine TC.ret ?_
    exact ⟨.inr rfl, [_], [_], _, rfl, by decide, rfl, by simp [refV, refC, valC], rfl, resV (by exact congrArg _ dec_zero)⟩
  have hk7 := hb
  refine TC.skip ?_
  show TC _ _ _ _ _ _
  refine TC.seq ?_
  have hne : n ≠ 0 := by simpa using hb
  refine TC.region ?_
  refine TL.vE (Val.move 1 rfl rfl) ?_
  refine TL.vE (Val.lss rfl rfl rfl) ?_
  refine TL.vE (Val.assign 1 rfl rfl) ?_
  refine TL.nil ?_
  show TC _ _ _ _ _ _
  refine TC.seq ?_
  refine TC.region ?_
  refine TL.vE (Val.assign 1 rfl rfl) ?_
  refine TL.nil ?_
  show TC _ _ _ _ _ _
  refine TC.seq ?_
  refine TC.block ?_
  refine TC.loop (fun μ st => ∃ (v : Int) (s : ByteArray), (v.natAbs ≤ n.natAbs ∧ str (Lib.decDigits n.natAbs) = str (pdec v.natAbs) ++ s) ∧ μ = v.natAbs ∧ Can st ⟨[I v, .one .dead, .one .dead, B (decide (n < 0)), S s, .one .dead, .one .dead, .one .dead, .one .dead, .one .dead, .one .dead, .one .dead, .one .dead, .one .dead, .one .dead, .one .dead, .one .dead, .one .dead, .one .dead, .one .dead, .one .dead, .one .dead, .one .dead, .one .dead, .one .dead, .one .dead, .one .dead, .one .dead, .one .dead, .one .dead], []⟩) (n.natAbs) ?_ fun μ st hI => ?_
  · refine ⟨n, ⟨#[]⟩, ⟨Nat.le_refl _, dec_start hne⟩, rfl, ?_⟩
    exact Can.to (by repeat first | exact LessT.nil | refine LessT.drop ?_ | refine LessT.keep ?_ | refine LessT.eq (by simp) ?_) (by repeat first | exact .nil | refine .cons rfl rfl ?_)
  · obtain ⟨v, s, hyp, rfl, hcan⟩ := hI
    refine TC.can hcan ?_
    clear hcan
    refine TC.seq ?_
    refine TC.seq ?_
    refine TC.region ?_
    refine TL.vE (Val.move 1 rfl rfl) ?_
    refine TL.vE (Val.neq rfl rfl rfl) ?_
    refine TL.nil ?_
    show TC _ _ _ _ _ _
    refine TC.cond rfl (fun hb => ?_) (fun hb => ?_)
    · have hk11 := hb
      refine TC.skip ?_
      show TC _ _ _ _ _ _
      refine TC.block ?_
      refine TC.seq ?_
      have hv : v ≠ 0 := by simpa using hb
      have hsz := dec_suf hyp.2 hn
      have hq := tdiv_le (v := v)
      have hr := tmod_abs (v := v)
      refine TC.region ?_
      refine TL.vE (Val.move 1 rfl rfl) ?_
      refine TL.vE (by exact Val.rem rfl rfl rfl (by decide)) ?_
      refine TL.vE (Val.assign 1 rfl rfl) ?_
      refine TL.nil ?_
      show TC _ _ _ _ _ _
      refine TC.seq ?_
      refine TC.seq ?_
      refine TC.region ?_
      refine TL.vE (Val.move 1 rfl rfl) ?_
      refine TL.vE (Val.lss rfl rfl rfl) ?_
      refine TL.nil ?_
      show TC _ _ _ _ _ _
      refine TC.cond rfl (fun hb => ?_) (fun hb => ?_)
      · have hk15 := hb
        have hd : v.tmod 10 < 0 := by simpa using hb
        refine TC.region ?_
        refine TL.vE (Val.move 1 rfl rfl) ?_
        refine TL.vE (by exact Val.neg rfl rfl (by omega) (by omega)) ?_
        refine TL.vE (Val.assign 1 rfl rfl) ?_
        refine TL.nil ?_
        show TC _ _ _ _ _ _
        refine TC.seq ?_
        have hb : _ := hb
        simp only [decide_eq_true_eq, decide_eq_false_iff_not] at hb
        obtain ⟨d, hd0, hd1, e1, e2⟩ : ∃ d : Int, 0 ≤ d ∧ d.natAbs = v.natAbs % 10 ∧ (v.tmod 10 < 0 → -(v.tmod 10) = d) ∧ (¬ v.tmod 10 < 0 → v.tmod 10 = d) := ⟨((v.tmod 10).natAbs : Int), by omega, by omega, fun _ => by omega, fun _ => by omega⟩
        first | rw [e1 hd] | rw [e2 hb]
        refine TC.region ?_
        refine TL.vE (Val.move 1 rfl rfl) ?_
        refine TL.cF ((spec_l01Figure_f d hd0 (by omega)).k) ?_
        refine TL.opK rfl fun K hK => ?_
        refine OpT.buildP rfl rfl (xs := [(Go.Operand.tmp 19)]) rfl rfl rfl rfl (sz := 1) rfl rfl rfl (by decide) (by decide) ?_
        simp only [nrm, Nat.reduceBEq, Nat.reduceBNe, reduceIte]
        refine hK _ ?_
        clear hK K
        refine TL.vE (by exact Val.bytesStr (ns := [figure d]) rfl rfl rfl rfl rfl rfl) ?_
        refine TL.vE (Val.move 1 rfl rfl) ?_
        refine TL.vE (Val.addS rfl rfl rfl (by first | decide | omega | (simp [lit_size, ByteArray.size_append, strOfNums_size]; omega))) ?_
        refine TL.vE (Val.assign 1 rfl rfl) ?_
        refine TL.nil ?_
        show TC _ _ _ _ _ _
        refine TC.region ?_
        refine TL.vE (Val.move 1 rfl rfl) ?_
        refine TL.vE (by exact Val.quo rfl rfl rfl (by decide) (by omega) (by omega)) ?_
        refine TL.vE (Val.assign 1 rfl rfl) ?_
        refine TL.nil ?_
        first | refine Seq.normal ⟨_, ?_, v.tdiv 10, strOfNums [figure d] ++ s, ?_, rfl, ?_⟩ | refine Seq.normal (Q := fun _ _ => True) ⟨_, ?_, v.tdiv 10, strOfNums [figure d] ++ s, ?_, rfl, ?_⟩
        · omega
        · exact ⟨by omega, dec_next hv hyp.2 hd1 hd0⟩
        · exact Can.to (by repeat first | exact LessT.nil | refine LessT.drop ?_ | refine LessT.keep ?_ | refine LessT.eq (by simp) ?_) (by repeat first | exact .nil | refine .cons rfl rfl ?_)
      have hk15 := hb
      refine TC.skip ?_
      show TC _ _ _ _ _ _
      refine TC.seq ?_
      have hb : _ := hb
      simp only [decide_eq_true_eq, decide_eq_false_iff_not] at hb
      obtain ⟨d, hd0, hd1, e1, e2⟩ : ∃ d : Int, 0 ≤ d ∧ d.natAbs = v.natAbs % 10 ∧ (v.tmod 10 < 0 → -(v.tmod 10) = d) ∧ (¬ v.tmod 10 < 0 → v.tmod 10 = d) := ⟨((v.tmod 10).natAbs : Int), by omega, by omega, fun _ => by omega, fun _ => by omega⟩
      first | rw [e1 hd] | rw [e2 hb]
      refine TC.region ?_
      refine TL.vE (Val.move 1 rfl rfl) ?_
      refine TL.cF ((spec_l01Figure_f d hd0 (by omega)).k) ?_
      refine TL.opK rfl fun K hK => ?_
      refine OpT.buildP rfl rfl (xs := [(Go.Operand.tmp 19)]) rfl rfl rfl rfl (sz := 1) rfl rfl rfl (by decide) (by decide) ?_
      simp only [nrm, Nat.reduceBEq, Nat.reduceBNe, reduceIte]
      refine hK _ ?_
      clear hK K
      refine TL.vE (by exact Val.bytesStr (ns := [figure d]) rfl rfl rfl rfl rfl rfl) ?_
      refine TL.vE (Val.move 1 rfl rfl) ?_
      refine TL.vE (Val.addS rfl rfl rfl (by first | decide | omega | (simp [lit_size, ByteArray.size_append, strOfNums_size]; omega))) ?_
      refine TL.vE (Val.assign 1 rfl rfl) ?_
      refine TL.nil ?_
      show TC _ _ _ _ _ _
      refine TC.region ?_
      refine TL.vE (Val.move 1 rfl rfl) ?_
      refine TL.vE (by exact Val.quo rfl rfl rfl (by decide) (by omega) (by omega)) ?_
      refine TL.vE (Val.assign 1 rfl rfl) ?_
      refine TL.nil ?_
      first | refine Seq.normal ⟨_, ?_, v.tdiv 10, strOfNums [figure d] ++ s, ?_, rfl, ?_⟩ | refine Seq.normal (Q := fun _ _ => True) ⟨_, ?_, v.tdiv 10, strOfNums [figure d] ++ s, ?_, rfl, ?_⟩
      · omega
      · exact ⟨by omega, dec_next hv hyp.2 hd1 hd0⟩
      · exact Can.to (by repeat first | exact LessT.nil | refine LessT.drop ?_ | refine LessT.keep ?_ | refine LessT.eq (by simp) ?_) (by repeat first | exact .nil | refine .cons rfl rfl ?_)
    have hk11 := hb
    refine TC.exit ?_
    show TC _ _ _ _ _ _
    refine TC.seq ?_
    refine TC.seq ?_
    obtain rfl : v = 0 := by simpa using hb
    have hsz := dec_suf hyp.2 hn
    refine TC.region ?_
    refine TL.vE (Val.move 1 rfl rfl) ?_
    refine TL.nil ?_
    show TC _ _ _ _ _ _
    refine TC.cond rfl (fun hb => ?_) (fun hb => ?_)
    · have hk26 := hb
      refine TC.seq ?_
      refine TC.region ?_
      refine TL.vE (Val.move 1 rfl rfl) ?_
      refine TL.vE (Val.addS rfl rfl rfl (by first | decide | omega | (simp [lit_size, ByteArray.size_append, strOfNums_size]; omega))) ?_
      refine TL.vE (Val.assign 1 rfl rfl) ?_
      refine TL.nil ?_
      show TC _ _ _ _ _ _
      refine TC.ret ?_
      exact ⟨.inr rfl, [_], [_], _, rfl, by decide, rfl, by simp [refV, refC, valC], rfl, resV (by exact congrArg _ (dec_neg hyp.2 (by simpa using hb)))⟩
    have hk26 := hb
    refine TC.skip ?_
    show TC _ _ _ _ _ _
    refine TC.seq ?_
    refine TC.region ?_
    refine TL.vE (Val.move 1 rfl rfl) ?_
    refine TL.vE (Val.assign 1 rfl rfl) ?_
    refine TL.nil ?_
    show TC _ _ _ _ _ _
    refine TC.ret ?_
    exact ⟨.inr rfl, [_], [_], _, rfl, by decide, rfl, by simp [refV, refC, valC], rfl, resV (by exact congrArg _ (dec_done hyp.2 (by simpa using hb)))⟩

theorem impl_Decimal_f (n : Int) (hn : I64 n) : FunW (Tab) Tryz.prog 60 [I n] (RV (.string (dec n))) := by
  refine FunW.of (Tab.keep) Tryz.func60 rfl (by simp [Tryz.ntmps60]) fun w g0 hW => ?_
  simp only [Tryz.ntmps60, List.length_cons, List.length_nil, Nat.reduceAdd, Nat.reduceSub, List.replicate, List.cons_append, List.nil_append]
  refine TC.seq ?_
  refine TC.region ?_
  refine TL.vE (Val.assign 1 rfl rfl) ?_
  refine TL.nil ?_
  show TC _ _ _ _ _ _
  refine TC.seq ?_
  refine TC.region ?_
  refine TL.vE (Val.move 1 rfl rfl) ?_
  refine TL.cF ((itoa_f n hn.1 hn.2).k) ?_
  refine TL.vE (Val.assign 1 rfl rfl) ?_
  refine TL.nil ?_
  show TC _ _ _ _ _ _
  refine TC.ret ?_
  exact ⟨.inr rfl, [_], [_], _, rfl, by decide, rfl, by simp [refV, refC, valC], rfl, rfl⟩
end Go.Proofs.YtfbjcdhphhfpfaaGreatDoor.T

