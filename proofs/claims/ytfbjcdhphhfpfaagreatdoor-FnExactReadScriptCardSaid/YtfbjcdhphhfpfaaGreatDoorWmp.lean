/- What a script must be like: both sides' walks. PRINTED by gen.py out of spec_scriptok.py. -/
import Derived.Test.YtfbjcdhphhfpfaaGreatDoorT3p
import Derived.Test.YtfbjcdhphhfpfaaGreatDoorWhp
import Derived.Test.YtfbjcdhphhfpfaaGreatDoorWkp
import Derived.Test.YtfbjcdhphhfpfaaGreatDoorWip
namespace Go.Proofs.YtfbjcdhphhfpfaaGreatDoor.T
open Go
set_option linter.unusedVariables false
set_option linter.unusedSimpArgs false
set_option maxRecDepth 100000
set_option maxHeartbeats 1000000

def monOk (ps : List (List VIns)) : Bool := inR ps.length 1 2 && ps.all progOk
def actFine (a : VAct) : Bool := decide (actLine a ≠ ⟨#[]⟩)
def scriptOk (x : VScript) : Bool := (inR x.All.length 1 3 && decide (x.Acts.length ≤ 80)) && (x.All.all monOk && x.Acts.all actFine)
theorem mon_len {p : List (List VIns)} (h : inR p.length 1 2 = false) : monOk p = false := by simp [monOk, h]
theorem mon_off {p : List (List VIns)} (h : p.all progOk = false) : monOk p = false := by simp [monOk, h]
theorem mon_yes {p : List (List VIns)} (h : inR p.length 1 2 = true) (h2 : p.all progOk = true) : monOk p = true := by simp [monOk, h, h2]
theorem spec_ProgOk_f (xs : List VIns) : Fun Tryz.prog 31 [L 2 (xs.map dIns)] (RV (.bool (progOk xs))) := by
  refine Fun.of Tryz.func31 rfl (by simp [Tryz.ntmps31]) fun w g0 => ?_
  simp only [Tryz.ntmps31, List.length_cons, List.length_nil, Nat.reduceAdd, Nat.reduceSub, List.replicate, List.cons_append, List.nil_append]
  refine TC.most (i := 0) rfl rfl fun hm0 => ?_
  simp only [most, List.length_map] at hm0
  refine TC.seq ?_
  refine TC.region ?_
  refine TL.vE (Val.assign 1 rfl rfl) ?_
  refine TL.nil ?_
  show TC _ _ _ _ _ _
  refine TC.seq ?_
  refine TC.seq ?_
  refine TC.region ?_
  refine TL.vE (Val.assign 1 rfl rfl) ?_
  refine TL.nil ?_
  show TC _ _ _ _ _ _
  refine TC.block ?_
  refine TC.loop (fun μ st => ∃ k : Nat, (k ≤ xs.length ∧ (xs.take k).all insOk = true) ∧ μ = xs.length - k ∧ Can st ⟨[L 2 (xs.map dIns), .one .dead, .one .dead, I k, .one .dead, .one .dead, .one .dead, .one .dead, .one .dead, .one .dead, .one .dead, .one .dead, .one .dead, .one .dead, .one .dead, .one .dead, .one .dead, .one .dead, .one .dead], []⟩) (xs.length) ?_ fun μ st hI => ?_
  · refine ⟨0, by simp, by simp, ?_⟩
    exact Can.to (by repeat first | exact LessT.nil | refine LessT.drop ?_ | refine LessT.keep ?_ | refine LessT.eq (by simp) ?_) (by repeat first | exact .nil | refine .cons rfl rfl ?_)
  · obtain ⟨k, hyp, rfl, hcan⟩ := hI
    refine TC.can hcan ?_
    clear hcan
    refine TC.seq ?_
    refine TC.seq ?_
    refine TC.region ?_
    refine TL.vE (Val.move 1 rfl rfl) ?_
    refine TL.vE (Val.move 1 rfl rfl) ?_
    refine TL.vE (by first | exact Val.len rfl rfl rfl rfl | exact Val.lenS rfl rfl rfl) ?_
    refine TL.vE (Val.lss rfl rfl rfl) ?_
    refine TL.nil ?_
    show TC _ _ _ _ _ _
    refine TC.cond rfl (fun hb => ?_) (fun hb => ?_)
    · refine TC.skip ?_
      show TC _ _ _ _ _ _
      refine TC.seq ?_
      refine TC.block ?_
      refine TC.seq ?_
      have hk : k < xs.length := by simpa using hb
      obtain ⟨x, hx⟩ := at_of (xs := xs) (k := k) hk
      refine TC.region ?_
      refine TL.vE (Val.move 1 rfl rfl) ?_
      refine TL.vE (Val.move 1 rfl rfl) ?_
      refine TL.vE (by exact Val.indexC (d := dIns x) rfl rfl rfl rfl rfl (by omega) (by simp [hx])) ?_
      refine TL.valE rfl (by first | exact Val.loadCAgg (n := 2) rfl rfl rfl rfl (Nat.le_of_ble_eq_true rfl) | exact Val.loadAgg (n := 2) rfl rfl rfl rfl (by simp [St.cellsAt, St.cellAt, St.root, valC]; rfl) rfl | exact Val.loadAgg (n := 2) rfl rfl rfl rfl rfl rfl) (by simp only [St.put, List.set_cons_succ, List.set_cons_zero, valC, dIns, rIns, D.row, List.take_succ_cons, List.take_zero, List.map_cons, List.map_nil]; rfl) ?_
      refine TL.callF (yes_none rfl) rfl rfl rfl rfl rfl rfl ((spec_InsOk_f x).k) (by repeat first | exact .nil | refine Snaps.cons (.ro _) ?_ | refine Snaps.cons (.aggRo rfl) ?_ | refine Snaps.cons (.cptr _) ?_ | refine Snaps.cons (.fn _) ?_ | refine Snaps.cons (.ownRef rfl (by first | assumption | exact w_InsS _ | exact w_InsSS _ | exact w_InsSSS _ | exact w_ActS _)) ?_ | refine Snaps.cons (.aggR (by repeat first | exact .nil | refine SnapCs.cons (.ro _) ?_ | refine SnapCs.cons (.ref rfl (by first | assumption | exact w_InsS _ | exact w_InsSS _ | exact w_InsSSS _ | exact w_ActS _)) ?_)) ?_) rfl (by simp only [nput]; rfl) ?_
      refine TL.vE (Val.not rfl rfl) ?_
      refine TL.nil ?_
      show TC _ _ _ _ _ _
      refine TC.cond rfl (fun hb => ?_) (fun hb => ?_)
      · refine TC.seq ?_
        have hf : xs.all insOk = false := all_off hx (by simpa using hb)
        refine TC.region ?_
        refine TL.vE (Val.assign 1 rfl rfl) ?_
        refine TL.nil ?_
        show TC _ _ _ _ _ _
        refine TC.ret ?_
        exact ⟨.inr rfl, [_], [_], _, rfl, by decide, rfl, by simp [refV, refC, valC], rfl, resV (by simp [progOk, hf])⟩
      · refine TC.skip ?_
        show TC _ _ _ _ _ _
        refine TC.region ?_
        refine TL.vE (Val.move 1 rfl rfl) ?_
        refine TL.vE (Val.addO rfl rfl rfl) ?_
        refine TL.vE (Val.assign 1 rfl rfl) ?_
        refine TL.nil ?_
        first | refine Seq.normal ⟨_, ?_, k + 1, ?_, rfl, ?_⟩ | refine Seq.normal (Q := fun _ _ => True) ⟨_, ?_, k + 1, ?_, rfl, ?_⟩
        · omega
        · exact ⟨by omega, all_step hyp.2 hx (by simpa using hb)⟩
        · exact Can.to (by repeat first | exact LessT.nil | refine LessT.drop ?_ | refine LessT.keep ?_ | refine LessT.eq (by simp) ?_) (by repeat first | exact .nil | refine .cons rfl rfl ?_)
    · refine TC.exit ?_
      show TC _ _ _ _ _ _
      refine TC.seq ?_
      have ha : xs.all insOk = true := all_all hyp.2 (by simp at hb; omega)
      refine TC.region ?_
      refine TL.vE (Val.move 1 rfl rfl) ?_
      refine TL.vE (by first | exact Val.len rfl rfl rfl rfl | exact Val.lenS rfl rfl rfl) ?_
      refine TL.callF (yes_none rfl) rfl rfl rfl rfl rfl rfl ((spec_l01In_f _ _ _).k) (by repeat first | exact .nil | refine Snaps.cons (.ro _) ?_ | refine Snaps.cons (.aggRo rfl) ?_ | refine Snaps.cons (.cptr _) ?_ | refine Snaps.cons (.fn _) ?_ | refine Snaps.cons (.ownRef rfl (by first | assumption | exact w_InsS _ | exact w_InsSS _ | exact w_InsSSS _ | exact w_ActS _)) ?_ | refine Snaps.cons (.aggR (by repeat first | exact .nil | refine SnapCs.cons (.ro _) ?_ | refine SnapCs.cons (.ref rfl (by first | assumption | exact w_InsS _ | exact w_InsSS _ | exact w_InsSSS _ | exact w_ActS _)) ?_)) ?_) rfl (by simp only [nput]; rfl) ?_
      refine TL.vE (Val.assign 1 rfl rfl) ?_
      refine TL.nil ?_
      show TC _ _ _ _ _ _
      refine TC.ret ?_
      exact ⟨.inr rfl, [_], [_], _, rfl, by decide, rfl, by simp [refV, refC, valC], rfl, resV (by simp [progOk, ha] <;> (try simp_all) <;> (first | rfl | omega | (rw [Bool.eq_iff_iff]; simp [and_assoc]; done) | (rw [Bool.eq_iff_iff]; simp; omega)))⟩

theorem impl_ProgOk_f (xs : List VIns) : Fun Tryz.prog 36 [L 2 (xs.map dIns)] (RV (.bool (progOk xs))) := by
  refine Fun.of Tryz.func36 rfl (by simp [Tryz.ntmps36]) fun w g0 => ?_
  simp only [Tryz.ntmps36, List.length_cons, List.length_nil, Nat.reduceAdd, Nat.reduceSub, List.replicate, List.cons_append, List.nil_append]
  refine TC.most (i := 0) rfl rfl fun hm0 => ?_
  simp only [most, List.length_map] at hm0
  refine TC.seq ?_
  refine TC.region ?_
  refine TL.vE (Val.assign 1 rfl rfl) ?_
  refine TL.nil ?_
  show TC _ _ _ _ _ _
  refine TC.seq ?_
  refine TC.seq ?_
  refine TC.region ?_
  refine TL.vE (Val.move 1 rfl rfl) ?_
  refine TL.vE (by first | exact Val.len rfl rfl rfl rfl | exact Val.lenS rfl rfl rfl) ?_
  refine TL.vE (Val.move 1 rfl rfl) ?_
  refine TL.nil ?_
  show TC _ _ _ _ _ _
  refine TC.block ?_
  refine TC.loop (fun μ st => ∃ k : Nat, (k ≤ xs.length ∧ (xs.take k).all insOk = true) ∧ μ = xs.length - k ∧ Can st ⟨[L 2 (xs.map dIns), .one .dead, .one .dead, .one .dead, .one .dead, L 2 (xs.map dIns), I (xs.map dIns).length, I k, .one .dead, .one .dead, .one .dead, .one .dead, .one .dead, .one .dead, .one .dead, .one .dead, .one .dead, .one .dead], []⟩) (xs.length) ?_ fun μ st hI => ?_
  · refine ⟨0, by simp, by simp, ?_⟩
    exact Can.to (by repeat first | exact LessT.nil | refine LessT.drop ?_ | refine LessT.keep ?_ | refine LessT.eq (by simp) ?_) (by repeat first | exact .nil | refine .cons rfl rfl ?_)
  · obtain ⟨k, hyp, rfl, hcan⟩ := hI
    refine TC.can hcan ?_
    clear hcan
    refine TC.seq ?_
    refine TC.region ?_
    refine TL.vE (Val.lss rfl rfl rfl) ?_
    refine TL.nil ?_
    show TC _ _ _ _ _ _
    refine TC.seq ?_
    refine TC.cond rfl (fun hb => ?_) (fun hb => ?_)
    · refine TC.skip ?_
      show TC _ _ _ _ _ _
      refine TC.seq ?_
      refine TC.block ?_
      refine TC.seq ?_
      have hk : k < xs.length := by simpa using hb
      obtain ⟨x, hx⟩ := at_of (xs := xs) (k := k) hk
      refine TC.region ?_
      refine TL.vE (by exact Val.indexC (d := dIns x) rfl rfl rfl rfl rfl (by omega) (by simp [hx])) ?_
      refine TL.valE rfl (by first | exact Val.loadCAgg (n := 2) rfl rfl rfl rfl (Nat.le_of_ble_eq_true rfl) | exact Val.loadAgg (n := 2) rfl rfl rfl rfl (by simp [St.cellsAt, St.cellAt, St.root, valC]; rfl) rfl | exact Val.loadAgg (n := 2) rfl rfl rfl rfl rfl rfl) (by simp only [St.put, List.set_cons_succ, List.set_cons_zero, valC, dIns, rIns, D.row, List.take_succ_cons, List.take_zero, List.map_cons, List.map_nil]; rfl) ?_
      refine TL.opK rfl fun K hK => ?_
      refine OpT.alloc rfl rfl rfl rfl rfl rfl ?_
      simp only [nrm, Nat.reduceBEq, Nat.reduceBNe, reduceIte]
      refine hK _ ?_
      clear hK K
      refine TL.opK rfl fun K hK => ?_
      refine OpT.storeAgg rfl rfl rfl rfl rfl rfl (by simp [St.store1, St.storeAll, St.cellAt, St.isMem, St.root, St.wrote, St.kill, St.setRoot, TS.kill, TV.kill, C.kill, Rt.kill, hitR, hitP, shapeOf, setRow, setAt, rowAt, D.row, D.reRow, List.isPrefixOf]; rfl) ?_ -- None
      simp only [nrm, Nat.reduceBEq, Nat.reduceBNe, reduceIte]
      refine hK _ ?_
      clear hK K
      refine TL.nil ?_
      show TC _ _ _ _ _ _
      refine TC.seq ?_
      refine TC.region ?_
      refine TL.valE rfl (by first | exact Val.loadCAgg (n := 2) rfl rfl rfl rfl (Nat.le_of_ble_eq_true rfl) | exact Val.loadAgg (n := 2) rfl rfl rfl rfl (by simp [St.cellsAt, St.cellAt, St.root, valC]; rfl) rfl | exact Val.loadAgg (n := 2) rfl rfl rfl rfl rfl rfl) (by simp only [St.put, List.set_cons_succ, List.set_cons_zero, valC, dIns, rIns, D.row, List.take_succ_cons, List.take_zero, List.map_cons, List.map_nil]; rfl) ?_
      refine TL.callF (yes_none rfl) rfl rfl rfl rfl rfl rfl ((impl_InsOk_f x).k) (by repeat first | exact .nil | refine Snaps.cons (.ro _) ?_ | refine Snaps.cons (.aggRo rfl) ?_ | refine Snaps.cons (.cptr _) ?_ | refine Snaps.cons (.fn _) ?_ | refine Snaps.cons (.ownRef rfl (by first | assumption | exact w_InsS _ | exact w_InsSS _ | exact w_InsSSS _ | exact w_ActS _)) ?_ | refine Snaps.cons (.aggR (by repeat first | exact .nil | refine SnapCs.cons (.ro _) ?_ | refine SnapCs.cons (.ref rfl (by first | assumption | exact w_InsS _ | exact w_InsSS _ | exact w_InsSSS _ | exact w_ActS _)) ?_)) ?_) rfl (by simp only [nput]; rfl) ?_
      refine TL.vE (Val.not rfl rfl) ?_
      refine TL.nil ?_
      show TC _ _ _ _ _ _
      refine TC.cond rfl (fun hb => ?_) (fun hb => ?_)
      · refine TC.seq ?_
        have hf : xs.all insOk = false := all_off hx (by simpa using hb)
        refine TC.region ?_
        refine TL.vE (Val.assign 1 rfl rfl) ?_
        refine TL.nil ?_
        show TC _ _ _ _ _ _
        refine TC.ret ?_
        exact ⟨.inr rfl, [_], [_], _, rfl, by decide, rfl, by simp [refV, refC, valC], rfl, resV (by simp [progOk, hf])⟩
      · refine TC.skip ?_
        show TC _ _ _ _ _ _
        refine TC.region ?_
        refine TL.vE (Val.addO rfl rfl rfl) ?_
        refine TL.vE (Val.move 1 rfl rfl) ?_
        refine TL.nil ?_
        first | refine Seq.normal ⟨_, ?_, k + 1, ?_, rfl, ?_⟩ | refine Seq.normal (Q := fun _ _ => True) ⟨_, ?_, k + 1, ?_, rfl, ?_⟩
        · omega
        · exact ⟨by omega, all_step hyp.2 hx (by simpa using hb)⟩
        · exact Can.to (by repeat first | exact LessT.nil | refine LessT.drop ?_ | refine LessT.keep ?_ | refine LessT.eq (by simp) ?_) (by repeat first | exact .nil | refine .cons rfl rfl ?_)
    · refine TC.exit ?_
      show TC _ _ _ _ _ _
      refine TC.seq ?_
      have ha : xs.all insOk = true := all_all hyp.2 (by simp at hb; omega)
      refine TC.region ?_
      refine TL.vE (Val.move 1 rfl rfl) ?_
      refine TL.vE (by first | exact Val.len rfl rfl rfl rfl | exact Val.lenS rfl rfl rfl) ?_
      refine TL.callF (yes_none rfl) rfl rfl rfl rfl rfl rfl ((impl_within_f _ _ _).k) (by repeat first | exact .nil | refine Snaps.cons (.ro _) ?_ | refine Snaps.cons (.aggRo rfl) ?_ | refine Snaps.cons (.cptr _) ?_ | refine Snaps.cons (.fn _) ?_ | refine Snaps.cons (.ownRef rfl (by first | assumption | exact w_InsS _ | exact w_InsSS _ | exact w_InsSSS _ | exact w_ActS _)) ?_ | refine Snaps.cons (.aggR (by repeat first | exact .nil | refine SnapCs.cons (.ro _) ?_ | refine SnapCs.cons (.ref rfl (by first | assumption | exact w_InsS _ | exact w_InsSS _ | exact w_InsSSS _ | exact w_ActS _)) ?_)) ?_) rfl (by simp only [nput]; rfl) ?_
      refine TL.vE (Val.assign 1 rfl rfl) ?_
      refine TL.nil ?_
      show TC _ _ _ _ _ _
      refine TC.ret ?_
      exact ⟨.inr rfl, [_], [_], _, rfl, by decide, rfl, by simp [refV, refC, valC], rfl, resV (by simp [progOk, ha] <;> (try simp_all) <;> (first | rfl | omega | (rw [Bool.eq_iff_iff]; simp [and_assoc]; done) | (rw [Bool.eq_iff_iff]; simp; omega)))⟩

theorem spec_ScriptOk_f (x : VScript) : Fun Tryz.prog 13 [A (rScript x)] (RV (.bool (scriptOk x))) := by
  refine Fun.of Tryz.func13 rfl (by simp [Tryz.ntmps13]) fun w g0 => ?_
  simp only [Tryz.ntmps13, List.length_cons, List.length_nil, Nat.reduceAdd, Nat.reduceSub, List.replicate, List.cons_append, List.nil_append]
  refine TC.seq ?_
  refine TC.region ?_
  refine TL.opK rfl fun K hK => ?_
  first | refine OpT.box rfl rfl (z := 1) rfl (by simp) ?_ | refine OpT.boxAgg rfl rfl rfl ?_
  simp only [nrm, Nat.reduceBEq, Nat.reduceBNe, reduceIte]
  refine hK _ ?_
  clear hK K
  refine TL.vE (Val.assign 1 rfl rfl) ?_
  refine TL.nil ?_
  show TC _ _ _ _ _ _
  refine TC.seq ?_
  refine TC.seq ?_
  refine TC.region ?_
  refine TL.vE (Val.assign 1 rfl rfl) ?_
  refine TL.nil ?_
  show TC _ _ _ _ _ _
  refine TC.block ?_
  refine TC.loop (fun μ st => ∃ m : Nat, (m ≤ x.All.length ∧ (x.All.take m).all monOk = true) ∧ μ = x.All.length - m ∧ Can st ⟨[.one .dead, .one (.ptr ⟨1, [], 0⟩), .one .dead, I m, .one .dead, .one .dead, .one .dead, .one .dead, .one .dead, .one .dead, .one .dead, .one .dead, .one .dead, .one .dead, .one .dead, .one .dead, .one .dead, .one .dead, .one .dead, .one .dead, .one .dead, .one .dead, .one .dead, .one .dead, .one .dead, .one .dead, .one .dead, .one .dead, .one .dead, .one .dead, .one .dead, .one .dead, .one .dead, .one .dead, .one .dead, .one .dead, .one .dead, .one .dead, .one .dead, .one .dead, .one .dead, .one .dead, .one .dead, .one .dead, .one .dead, .one .dead, .one .dead, .one .dead, .one .dead, .one .dead, .one .dead, .one .dead, .one .dead, .one .dead, .one .dead, .one .dead, .one .dead, .one .dead, .one .dead, .one .dead, .one .dead, .one .dead, .one .dead, .one .dead, .one .dead], [(1, ⟨true, [.ro (.sl 1 (x.All.map dInsSS)), .ro (.sl 6 (x.Acts.map dAct))]⟩)]⟩) (x.All.length) ?_ fun μ st hI => ?_
  · refine ⟨0, by simp, by simp, ?_⟩
    exact Can.to (by repeat first | exact LessT.nil | refine LessT.drop ?_ | refine LessT.keep ?_ | refine LessT.eq (by simp) ?_) (by repeat first | exact .nil | refine .cons rfl rfl ?_)
  · obtain ⟨m, hyp, rfl, hcan⟩ := hI
    refine TC.can hcan ?_
    clear hcan
    refine TC.seq ?_
    refine TC.seq ?_
    refine TC.region ?_
    refine TL.vE (Val.move 1 rfl rfl) ?_
    refine TL.fld ?_
    refine TL.ld ?_
    refine TL.vE (by first | exact Val.len rfl rfl rfl rfl | exact Val.lenS rfl rfl rfl) ?_
    refine TL.vE (Val.lss rfl rfl rfl) ?_
    refine TL.nil ?_
    show TC _ _ _ _ _ _
    refine TC.cond rfl (fun hb => ?_) (fun hb => ?_)
    · refine TC.skip ?_
      show TC _ _ _ _ _ _
      refine TC.seq ?_
      refine TC.block ?_
      refine TC.seq ?_
      refine TC.seq ?_
      refine TC.most (i := 8) rfl rfl fun hm0 => ?_
      simp only [most, List.length_map] at hm0
      have hm : m < x.All.length := by simpa using hb
      obtain ⟨p, hp⟩ := at_of (xs := x.All) (k := m) hm
      refine TC.region ?_
      refine TL.fld ?_
      refine TL.ld ?_
      refine TL.vE (Val.move 1 rfl rfl) ?_
      refine TL.vE (by exact Val.indexC (d := dInsSS p) rfl rfl rfl rfl rfl (by omega) (by simp [hp])) ?_
      refine TL.ld ?_
      refine TL.vE (by first | exact Val.len rfl rfl rfl rfl | exact Val.lenS rfl rfl rfl) ?_
      refine TL.callF (yes_none rfl) rfl rfl rfl rfl rfl rfl ((spec_l01In_f _ _ _).k) (by repeat first | exact .nil | refine Snaps.cons (.ro _) ?_ | refine Snaps.cons (.aggRo rfl) ?_ | refine Snaps.cons (.cptr _) ?_ | refine Snaps.cons (.fn _) ?_ | refine Snaps.cons (.ownRef rfl (by first | assumption | exact w_InsS _ | exact w_InsSS _ | exact w_InsSSS _ | exact w_ActS _)) ?_ | refine Snaps.cons (.aggR (by repeat first | exact .nil | refine SnapCs.cons (.ro _) ?_ | refine SnapCs.cons (.ref rfl (by first | assumption | exact w_InsS _ | exact w_InsSS _ | exact w_InsSSS _ | exact w_ActS _)) ?_)) ?_) rfl (by simp only [nput]; rfl) ?_
      refine TL.vE (Val.not rfl rfl) ?_
      refine TL.nil ?_
      show TC _ _ _ _ _ _
      refine TC.cond rfl (fun hb => ?_) (fun hb => ?_)
      · refine TC.seq ?_
        have hq : monOk p = false := mon_len (by simpa using hb)
        have hf : x.All.all monOk = false := all_off hp hq
        refine TC.region ?_
        refine TL.vE (Val.assign 1 rfl rfl) ?_
        refine TL.nil ?_
        show TC _ _ _ _ _ _
        refine TC.ret ?_
        exact ⟨.inr rfl, [_], [_], _, rfl, by decide, rfl, by simp [refV, refC, valC], rfl, resV (by simp [scriptOk, hf])⟩
      · refine TC.skip ?_
        show TC _ _ _ _ _ _
        refine TC.seq ?_
        have hpl : inR p.length 1 2 = true := by simpa using hb
        refine TC.region ?_
        refine TL.vE (Val.assign 1 rfl rfl) ?_
        refine TL.nil ?_
        show TC _ _ _ _ _ _
        refine TC.block ?_
        refine TC.loop (fun μ st => ∃ j : Nat, (j ≤ p.length ∧ (p.take j).all progOk = true) ∧ μ = p.length - j ∧ Can st ⟨[.one .dead, .one (.ptr ⟨1, [], 0⟩), .one .dead, I m, I j, .one .dead, .one .dead, .one .dead, .one .dead, .one .dead, .one .dead, .one .dead, .one .dead, .one .dead, .one .dead, .one .dead, .one .dead, .one .dead, .one .dead, .one .dead, .one .dead, .one .dead, .one .dead, .one .dead, .one .dead, .one .dead, .one .dead, .one .dead, .one .dead, .one .dead, .one .dead, .one .dead, .one .dead, .one .dead, .one .dead, .one .dead, .one .dead, .one .dead, .one .dead, .one .dead, .one .dead, .one .dead, .one .dead, .one .dead, .one .dead, .one .dead, .one .dead, .one .dead, .one .dead, .one .dead, .one .dead, .one .dead, .one .dead, .one .dead, .one .dead, .one .dead, .one .dead, .one .dead, .one .dead, .one .dead, .one .dead, .one .dead, .one .dead, .one .dead, .one .dead], [(1, ⟨true, [.ro (.sl 1 (x.All.map dInsSS)), .ro (.sl 6 (x.Acts.map dAct))]⟩)]⟩) (p.length) ?_ fun μ st hI => ?_
        · refine ⟨0, by simp, by simp, ?_⟩
          exact Can.to (by repeat first | exact LessT.nil | refine LessT.drop ?_ | refine LessT.keep ?_ | refine LessT.eq (by simp) ?_) (by repeat first | exact .nil | refine .cons rfl rfl ?_)
        · obtain ⟨j, hypj, rfl, hcan⟩ := hI
          refine TC.can hcan ?_
          clear hcan
          refine TC.seq ?_
          refine TC.seq ?_
          refine TC.region ?_
          refine TL.vE (Val.move 1 rfl rfl) ?_
          refine TL.fld ?_
          refine TL.ld ?_
          refine TL.vE (Val.move 1 rfl rfl) ?_
          refine TL.vE (by exact Val.indexC (d := dInsSS p) rfl rfl rfl rfl rfl (by omega) (by simp [hp])) ?_
          refine TL.ld ?_
          refine TL.vE (by first | exact Val.len rfl rfl rfl rfl | exact Val.lenS rfl rfl rfl) ?_
          refine TL.vE (Val.lss rfl rfl rfl) ?_
          refine TL.nil ?_
          show TC _ _ _ _ _ _
          refine TC.cond rfl (fun hb => ?_) (fun hb => ?_)
          · refine TC.skip ?_
            show TC _ _ _ _ _ _
            refine TC.seq ?_
            refine TC.block ?_
            refine TC.seq ?_
            refine TC.most (i := 26) rfl rfl fun hm0 => ?_
            simp only [most, List.length_map] at hm0
            have hj : j < p.length := by simpa using hb
            obtain ⟨u, hu⟩ := at_of (xs := p) (k := j) hj
            refine TC.region ?_
            refine TL.fld ?_
            refine TL.ld ?_
            refine TL.vE (Val.move 1 rfl rfl) ?_
            refine TL.vE (by exact Val.indexC (d := dInsSS p) rfl rfl rfl rfl rfl (by omega) (by simp [hp])) ?_
            refine TL.ld ?_
            refine TL.vE (Val.move 1 rfl rfl) ?_
            refine TL.vE (by exact Val.indexC (d := dInsS u) rfl rfl rfl rfl rfl (by omega) (by simp [hu])) ?_
            refine TL.ld ?_
            refine TL.callF (yes_none rfl) rfl rfl rfl rfl rfl rfl ((spec_ProgOk_f u).k) (by repeat first | exact .nil | refine Snaps.cons (.ro _) ?_ | refine Snaps.cons (.aggRo rfl) ?_ | refine Snaps.cons (.cptr _) ?_ | refine Snaps.cons (.fn _) ?_ | refine Snaps.cons (.ownRef rfl (by first | assumption | exact w_InsS _ | exact w_InsSS _ | exact w_InsSSS _ | exact w_ActS _)) ?_ | refine Snaps.cons (.aggR (by repeat first | exact .nil | refine SnapCs.cons (.ro _) ?_ | refine SnapCs.cons (.ref rfl (by first | assumption | exact w_InsS _ | exact w_InsSS _ | exact w_InsSSS _ | exact w_ActS _)) ?_)) ?_) rfl (by simp only [nput]; rfl) ?_
            refine TL.vE (Val.not rfl rfl) ?_
            refine TL.nil ?_
            show TC _ _ _ _ _ _
            refine TC.cond rfl (fun hb => ?_) (fun hb => ?_)
            · refine TC.seq ?_
              have hf : x.All.all monOk = false := all_off hp (mon_off (all_off hu (by simpa using hb)))
              refine TC.region ?_
              refine TL.vE (Val.assign 1 rfl rfl) ?_
              refine TL.nil ?_
              show TC _ _ _ _ _ _
              refine TC.ret ?_
              exact ⟨.inr rfl, [_], [_], _, rfl, by decide, rfl, by simp [refV, refC, valC], rfl, resV (by simp [scriptOk, hf])⟩
            · refine TC.skip ?_
              show TC _ _ _ _ _ _
              refine TC.region ?_
              refine TL.vE (Val.move 1 rfl rfl) ?_
              refine TL.vE (Val.addO rfl rfl rfl) ?_
              refine TL.vE (Val.assign 1 rfl rfl) ?_
              refine TL.nil ?_
              first | refine Seq.normal ⟨_, ?_, j + 1, ?_, rfl, ?_⟩ | refine Seq.normal (Q := fun _ _ => True) ⟨_, ?_, j + 1, ?_, rfl, ?_⟩
              · omega
              · exact ⟨by omega, all_step hypj.2 hu (by simpa using hb)⟩
              · exact Can.to (by repeat first | exact LessT.nil | refine LessT.drop ?_ | refine LessT.keep ?_ | refine LessT.eq (by simp) ?_) (by repeat first | exact .nil | refine .cons rfl rfl ?_)
          · refine TC.exit ?_
            show TC _ _ _ _ _ _
            have hmo : monOk p = true := mon_yes hpl (all_all hypj.2 (by simp at hb; omega))
            refine TC.region ?_
            refine TL.vE (Val.move 1 rfl rfl) ?_
            refine TL.vE (Val.addO rfl rfl rfl) ?_
            refine TL.vE (Val.assign 1 rfl rfl) ?_
            refine TL.nil ?_
            first | refine Seq.normal ⟨_, ?_, m + 1, ?_, rfl, ?_⟩ | refine Seq.normal (Q := fun _ _ => True) ⟨_, ?_, m + 1, ?_, rfl, ?_⟩
            · omega
            · exact ⟨by omega, all_step hyp.2 hp hmo⟩
            · exact Can.to (by repeat first | exact LessT.nil | refine LessT.drop ?_ | refine LessT.keep ?_ | refine LessT.eq (by simp) ?_) (by repeat first | exact .nil | refine .cons rfl rfl ?_)
    · refine TC.exit ?_
      show TC _ _ _ _ _ _
      refine TC.seq ?_
      refine TC.seq ?_
      have hA : x.All.all monOk = true := all_all hyp.2 (by simp at hb; omega)
      refine TC.region ?_
      refine TL.vE (Val.assign 1 rfl rfl) ?_
      refine TL.nil ?_
      show TC _ _ _ _ _ _
      refine TC.block ?_
      refine TC.loop (fun μ st => ∃ k : Nat, (k ≤ x.Acts.length ∧ (x.Acts.take k).all actFine = true) ∧ μ = x.Acts.length - k ∧ Can st ⟨[.one .dead, .one (.ptr ⟨1, [], 0⟩), .one .dead, .one .dead, .one .dead, I k, .one .dead, .one .dead, .one .dead, .one .dead, .one .dead, .one .dead, .one .dead, .one .dead, .one .dead, .one .dead, .one .dead, .one .dead, .one .dead, .one .dead, .one .dead, .one .dead, .one .dead, .one .dead, .one .dead, .one .dead, .one .dead, .one .dead, .one .dead, .one .dead, .one .dead, .one .dead, .one .dead, .one .dead, .one .dead, .one .dead, .one .dead, .one .dead, .one .dead, .one .dead, .one .dead, .one .dead, .one .dead, .one .dead, .one .dead, .one .dead, .one .dead, .one .dead, .one .dead, .one .dead, .one .dead, .one .dead, .one .dead, .one .dead, .one .dead, .one .dead, .one .dead, .one .dead, .one .dead, .one .dead, .one .dead, .one .dead, .one .dead, .one .dead, .one .dead], [(1, ⟨true, [.ro (.sl 1 (x.All.map dInsSS)), .ro (.sl 6 (x.Acts.map dAct))]⟩)]⟩) (x.Acts.length) ?_ fun μ st hI => ?_
      · refine ⟨0, by simp, by simp, ?_⟩
        exact Can.to (by repeat first | exact LessT.nil | refine LessT.drop ?_ | refine LessT.keep ?_ | refine LessT.eq (by simp) ?_) (by repeat first | exact .nil | refine .cons rfl rfl ?_)
      · obtain ⟨k, hypk, rfl, hcan⟩ := hI
        refine TC.can hcan ?_
        clear hcan
        refine TC.seq ?_
        refine TC.seq ?_
        refine TC.region ?_
        refine TL.vE (Val.move 1 rfl rfl) ?_
        refine TL.fld ?_
        refine TL.ld ?_
        refine TL.vE (by first | exact Val.len rfl rfl rfl rfl | exact Val.lenS rfl rfl rfl) ?_
        refine TL.vE (Val.lss rfl rfl rfl) ?_
        refine TL.nil ?_
        show TC _ _ _ _ _ _
        refine TC.cond rfl (fun hb => ?_) (fun hb => ?_)
        · refine TC.skip ?_
          show TC _ _ _ _ _ _
          refine TC.seq ?_
          refine TC.block ?_
          refine TC.seq ?_
          refine TC.most (i := 43) rfl rfl fun hm0 => ?_
          simp only [most, List.length_map] at hm0
          have hk : k < x.Acts.length := by simpa using hb
          obtain ⟨a, ha⟩ := at_of (xs := x.Acts) (k := k) hk
          refine TC.region ?_
          refine TL.fld ?_
          refine TL.ld ?_
          refine TL.vE (Val.move 1 rfl rfl) ?_
          refine TL.vE (by exact Val.indexC (d := dAct a) rfl rfl rfl rfl rfl (by omega) (by simp [ha])) ?_
          refine TL.valE rfl (by first | exact Val.loadCAgg (n := 6) rfl rfl rfl rfl (Nat.le_of_ble_eq_true rfl) | exact Val.loadAgg (n := 6) rfl rfl rfl rfl (by simp [St.cellsAt, St.cellAt, St.root, valC]; rfl) rfl | exact Val.loadAgg (n := 6) rfl rfl rfl rfl rfl rfl) (by simp only [St.put, List.set_cons_succ, List.set_cons_zero, valC, dAct, rAct, D.row, List.take_succ_cons, List.take_zero, List.map_cons, List.map_nil]; rfl) ?_
          refine TL.callF (yes_none rfl) rfl rfl rfl rfl rfl rfl ((spec_ActLine_f a).k) (by repeat first | exact .nil | refine Snaps.cons (.ro _) ?_ | refine Snaps.cons (.aggRo rfl) ?_ | refine Snaps.cons (.cptr _) ?_ | refine Snaps.cons (.fn _) ?_ | refine Snaps.cons (.ownRef rfl (by first | assumption | exact w_InsS _ | exact w_InsSS _ | exact w_InsSSS _ | exact w_ActS _)) ?_ | refine Snaps.cons (.aggR (by repeat first | exact .nil | refine SnapCs.cons (.ro _) ?_ | refine SnapCs.cons (.ref rfl (by first | assumption | exact w_InsS _ | exact w_InsSS _ | exact w_InsSSS _ | exact w_ActS _)) ?_)) ?_) rfl (by simp only [nput]; rfl) ?_
          refine TL.vE (Val.eqlS rfl rfl rfl) ?_
          refine TL.nil ?_
          show TC _ _ _ _ _ _
          refine TC.cond rfl (fun hb => ?_) (fun hb => ?_)
          · refine TC.seq ?_
            have hf : x.Acts.all actFine = false := all_off ha (by rw [ba_beq] at hb; simpa [actFine] using hb)
            refine TC.region ?_
            refine TL.vE (Val.assign 1 rfl rfl) ?_
            refine TL.nil ?_
            show TC _ _ _ _ _ _
            refine TC.ret ?_
            exact ⟨.inr rfl, [_], [_], _, rfl, by decide, rfl, by simp [refV, refC, valC], rfl, resV (by simp [scriptOk, hf])⟩
          · refine TC.skip ?_
            show TC _ _ _ _ _ _
            refine TC.region ?_
            refine TL.vE (Val.move 1 rfl rfl) ?_
            refine TL.vE (Val.addO rfl rfl rfl) ?_
            refine TL.vE (Val.assign 1 rfl rfl) ?_
            refine TL.nil ?_
            first | refine Seq.normal ⟨_, ?_, k + 1, ?_, rfl, ?_⟩ | refine Seq.normal (Q := fun _ _ => True) ⟨_, ?_, k + 1, ?_, rfl, ?_⟩
            · omega
            · exact ⟨by omega, all_step hypk.2 ha (by rw [ba_beq] at hb; simpa [actFine] using hb)⟩
            · exact Can.to (by repeat first | exact LessT.nil | refine LessT.drop ?_ | refine LessT.keep ?_ | refine LessT.eq (by simp) ?_) (by repeat first | exact .nil | refine .cons rfl rfl ?_)
        · refine TC.exit ?_
          show TC _ _ _ _ _ _
          refine TC.seq ?_
          have hC : x.Acts.all actFine = true := all_all hypk.2 (by simp at hb; omega)
          refine TC.region ?_
          refine TL.fld ?_
          refine TL.ld ?_
          refine TL.vE (by first | exact Val.len rfl rfl rfl rfl | exact Val.lenS rfl rfl rfl) ?_
          refine TL.callF (yes_none rfl) rfl rfl rfl rfl rfl rfl ((spec_l01In_f _ _ _).k) (by repeat first | exact .nil | refine Snaps.cons (.ro _) ?_ | refine Snaps.cons (.aggRo rfl) ?_ | refine Snaps.cons (.cptr _) ?_ | refine Snaps.cons (.fn _) ?_ | refine Snaps.cons (.ownRef rfl (by first | assumption | exact w_InsS _ | exact w_InsSS _ | exact w_InsSSS _ | exact w_ActS _)) ?_ | refine Snaps.cons (.aggR (by repeat first | exact .nil | refine SnapCs.cons (.ro _) ?_ | refine SnapCs.cons (.ref rfl (by first | assumption | exact w_InsS _ | exact w_InsSS _ | exact w_InsSSS _ | exact w_ActS _)) ?_)) ?_) rfl (by simp only [nput]; rfl) ?_
          refine TL.vE (Val.move 1 rfl rfl) ?_
          refine TL.splitG 4 rfl (fun hg4 => ?_) (fun hg4 => ?_)
          · refine TL.guardE rfl rfl hg4 (by first | exact Val.field rfl rfl rfl | exact Val.fieldC rfl rfl rfl) (by simp only [nput, npf, Nat.reduceAdd]; rfl) ?_
            refine TL.guardE rfl rfl hg4 (by first | exact Val.load rfl rfl rfl rfl rfl | exact Val.loadC rfl rfl rfl) (by simp only [nput, valC]; rfl) ?_
            refine TL.gE rfl hg4 (by first | exact Val.len rfl rfl rfl rfl | exact Val.lenS rfl rfl rfl) ?_
            refine TL.gE rfl hg4 (Val.leq rfl rfl rfl) ?_
            refine TL.vE (Val.pickT rfl rfl hg4 rfl) ?_
            refine TL.vE (Val.assign 1 rfl rfl) ?_
            refine TL.nil ?_
            show TC _ _ _ _ _ _
            refine TC.ret ?_
            exact ⟨.inr rfl, [_], [_], _, rfl, by decide, rfl, by simp [refV, refC, valC], rfl, resV (by simp only [scriptOk, hA, hC, Bool.and_self, Bool.and_true]; simp_all <;> omega)⟩
          · iterate 4 (refine TL.skip (nope_b rfl rfl hg4) (by simp only [nput]; rfl) ?_)
            refine TL.vE (Val.pickF rfl rfl hg4 rfl) ?_
            refine TL.vE (Val.assign 1 rfl rfl) ?_
            refine TL.nil ?_
            show TC _ _ _ _ _ _
            refine TC.ret ?_
            exact ⟨.inr rfl, [_], [_], _, rfl, by decide, rfl, by simp [refV, refC, valC], rfl, resV (by simp only [scriptOk, hA, hC, Bool.and_self, Bool.and_true]; simp_all <;> omega)⟩

theorem impl_ScriptOk_f (x : VScript) : FunW (Tab) Tryz.prog 17 [A (rScript x)] (RV (.bool (scriptOk x))) := by
  refine FunW.of (Tab.keep) Tryz.func17 rfl (by simp [Tryz.ntmps17]) fun w g0 hW => ?_
  simp only [Tryz.ntmps17, List.length_cons, List.length_nil, Nat.reduceAdd, Nat.reduceSub, List.replicate, List.cons_append, List.nil_append]
  refine TC.seq ?_
  refine TC.region ?_
  refine TL.opK rfl fun K hK => ?_
  first | refine OpT.box rfl rfl (z := 1) rfl (by simp) ?_ | refine OpT.boxAgg rfl rfl rfl ?_
  simp only [nrm, Nat.reduceBEq, Nat.reduceBNe, reduceIte]
  refine hK _ ?_
  clear hK K
  refine TL.vE (Val.assign 1 rfl rfl) ?_
  refine TL.nil ?_
  show TC _ _ _ _ _ _
  refine TC.seq ?_
  refine TC.seq ?_
  refine TC.region ?_
  refine TL.fld ?_
  refine TL.ld ?_
  refine TL.vE (by first | exact Val.len rfl rfl rfl rfl | exact Val.lenS rfl rfl rfl) ?_
  refine TL.callF (yes_none rfl) rfl rfl rfl rfl rfl rfl ((impl_within_f _ _ _).k) (by repeat first | exact .nil | refine Snaps.cons (.ro _) ?_ | refine Snaps.cons (.aggRo rfl) ?_ | refine Snaps.cons (.cptr _) ?_ | refine Snaps.cons (.fn _) ?_ | refine Snaps.cons (.ownRef rfl (by first | assumption | exact w_InsS _ | exact w_InsSS _ | exact w_InsSSS _ | exact w_ActS _)) ?_ | refine Snaps.cons (.aggR (by repeat first | exact .nil | refine SnapCs.cons (.ro _) ?_ | refine SnapCs.cons (.ref rfl (by first | assumption | exact w_InsS _ | exact w_InsSS _ | exact w_InsSSS _ | exact w_ActS _)) ?_)) ?_) rfl (by simp only [nput]; rfl) ?_
  refine TL.vE (Val.not rfl rfl) ?_
  refine TL.vE (Val.move 1 rfl rfl) ?_
  refine TL.splitG 5 rfl (fun hg5 => ?_) (fun hg5 => ?_)
  · iterate 4 (refine TL.skip (nope_b rfl rfl hg5) (by simp only [nput]; rfl) ?_)
    refine TL.vE (Val.pickT rfl rfl hg5 rfl) ?_
    refine TL.nil ?_
    show TC _ _ _ _ _ _
    refine TC.cond rfl (fun hb => ?_) (fun hb => absurd hb (by simp))
    refine TC.seq ?_
    refine TC.region ?_
    refine TL.vE (Val.assign 1 rfl rfl) ?_
    refine TL.nil ?_
    show TC _ _ _ _ _ _
    refine TC.ret ?_
    exact ⟨.inr rfl, [_], [_], _, rfl, by decide, rfl, by simp [refV, refC, valC], rfl, resV (by first | (simp_all [scriptOk]; done) | (unfold scriptOk; simp_all <;> omega))⟩
  · refine TL.guardE rfl rfl hg5 (by first | exact Val.field rfl rfl rfl | exact Val.fieldC rfl rfl rfl) (by simp only [nput, npf, Nat.reduceAdd]; rfl) ?_
    refine TL.guardE rfl rfl hg5 (by first | exact Val.load rfl rfl rfl rfl rfl | exact Val.loadC rfl rfl rfl) (by simp only [nput, valC]; rfl) ?_
    refine TL.gE rfl hg5 (by first | exact Val.len rfl rfl rfl rfl | exact Val.lenS rfl rfl rfl) ?_
    refine TL.gE rfl hg5 (Val.gtr rfl rfl rfl) ?_
    refine TL.vE (Val.pickF rfl rfl hg5 rfl) ?_
    refine TL.nil ?_
    show TC _ _ _ _ _ _
    refine TC.cond rfl (fun hb => ?_) (fun hb => ?_)
    · refine TC.seq ?_
      refine TC.region ?_
      refine TL.vE (Val.assign 1 rfl rfl) ?_
      refine TL.nil ?_
      show TC _ _ _ _ _ _
      refine TC.ret ?_
      exact ⟨.inr rfl, [_], [_], _, rfl, by decide, rfl, by simp [refV, refC, valC], rfl, resV (by first | (simp_all [scriptOk]; done) | (unfold scriptOk; simp_all <;> omega))⟩
    · refine TC.skip ?_
      show TC _ _ _ _ _ _
      refine TC.seq ?_
      refine TC.seq ?_
      have hl : (inR x.All.length 1 3 && decide (x.Acts.length ≤ 80)) = true := by simp_all <;> omega
      refine TC.region ?_
      refine TL.fld ?_
      refine TL.ld ?_
      refine TL.vE (by first | exact Val.len rfl rfl rfl rfl | exact Val.lenS rfl rfl rfl) ?_
      refine TL.vE (Val.move 1 rfl rfl) ?_
      refine TL.nil ?_
      show TC _ _ _ _ _ _
      refine TC.block ?_
      refine TC.loop (fun μ st => ∃ m : Nat, (m ≤ x.All.length ∧ (x.All.take m).all monOk = true) ∧ μ = x.All.length - m ∧ Can st ⟨[.one .dead, .one (.ptr ⟨1, [], 0⟩), .one .dead, .one .dead, .one .dead, .one .dead, .one .dead, .one .dead, .one .dead, .one .dead, .one .dead, .one .dead, .one .dead, .one .dead, .one .dead, .one .dead, .one .dead, .one .dead, .one .dead, .one .dead, .one .dead, L 1 (x.All.map dInsSS), I (x.All.map dInsSS).length, I m, .one .dead, .one .dead, .one .dead, .one .dead, .one .dead, .one .dead, .one .dead, .one .dead, .one .dead, .one .dead, .one .dead, .one .dead, .one .dead, .one .dead, .one .dead, .one .dead, .one .dead, .one .dead, .one .dead, .one .dead, .one .dead, .one .dead, .one .dead, .one .dead, .one .dead, .one .dead, .one .dead, .one .dead, .one .dead], [(1, ⟨true, [.ro (.sl 1 (x.All.map dInsSS)), .ro (.sl 6 (x.Acts.map dAct))]⟩)]⟩) (x.All.length) ?_ fun μ st hI => ?_
      · refine ⟨0, by simp, by simp, ?_⟩
        exact Can.to (by repeat first | exact LessT.nil | refine LessT.drop ?_ | refine LessT.keep ?_ | refine LessT.eq (by simp) ?_) (by repeat first | exact .nil | refine .cons rfl rfl ?_)
      · obtain ⟨m, hyp, rfl, hcan⟩ := hI
        refine TC.can hcan ?_
        clear hcan
        refine TC.seq ?_
        refine TC.region ?_
        refine TL.vE (Val.lss rfl rfl rfl) ?_
        refine TL.nil ?_
        show TC _ _ _ _ _ _
        refine TC.seq ?_
        refine TC.cond rfl (fun hb => ?_) (fun hb => ?_)
        · refine TC.skip ?_
          show TC _ _ _ _ _ _
          refine TC.seq ?_
          refine TC.block ?_
          refine TC.seq ?_
          refine TC.most (i := 21) rfl rfl fun hm0 => ?_
          simp only [most, List.length_map] at hm0
          have hm : m < x.All.length := by simpa using hb
          obtain ⟨p, hp⟩ := at_of (xs := x.All) (k := m) hm
          refine TC.region ?_
          refine TL.vE (by exact Val.indexC (d := dInsSS p) rfl rfl rfl rfl rfl (by omega) (by simp [hp])) ?_
          refine TL.ld ?_
          refine TL.vE (Val.assign 1 rfl rfl) ?_
          refine TL.nil ?_
          show TC _ _ _ _ _ _
          refine TC.seq ?_
          refine TC.seq ?_
          refine TC.region ?_
          refine TL.vE (Val.move 1 rfl rfl) ?_
          refine TL.vE (by first | exact Val.len rfl rfl rfl rfl | exact Val.lenS rfl rfl rfl) ?_
          refine TL.callF (yes_none rfl) rfl rfl rfl rfl rfl rfl ((impl_within_f _ _ _).k) (by repeat first | exact .nil | refine Snaps.cons (.ro _) ?_ | refine Snaps.cons (.aggRo rfl) ?_ | refine Snaps.cons (.cptr _) ?_ | refine Snaps.cons (.fn _) ?_ | refine Snaps.cons (.ownRef rfl (by first | assumption | exact w_InsS _ | exact w_InsSS _ | exact w_InsSSS _ | exact w_ActS _)) ?_ | refine Snaps.cons (.aggR (by repeat first | exact .nil | refine SnapCs.cons (.ro _) ?_ | refine SnapCs.cons (.ref rfl (by first | assumption | exact w_InsS _ | exact w_InsSS _ | exact w_InsSSS _ | exact w_ActS _)) ?_)) ?_) rfl (by simp only [nput]; rfl) ?_
          refine TL.vE (Val.not rfl rfl) ?_
          refine TL.nil ?_
          show TC _ _ _ _ _ _
          refine TC.cond rfl (fun hb => ?_) (fun hb => ?_)
          · refine TC.seq ?_
            have hq : monOk p = false := mon_len (by simpa using hb)
            have hf : x.All.all monOk = false := all_off hp hq
            refine TC.region ?_
            refine TL.vE (Val.assign 1 rfl rfl) ?_
            refine TL.nil ?_
            show TC _ _ _ _ _ _
            refine TC.ret ?_
            exact ⟨.inr rfl, [_], [_], _, rfl, by decide, rfl, by simp [refV, refC, valC], rfl, resV (by simp [scriptOk, hf])⟩
          · refine TC.skip ?_
            show TC _ _ _ _ _ _
            refine TC.seq ?_
            have hpl : inR p.length 1 2 = true := by simpa using hb
            refine TC.region ?_
            refine TL.vE (Val.move 1 rfl rfl) ?_
            refine TL.vE (by first | exact Val.len rfl rfl rfl rfl | exact Val.lenS rfl rfl rfl) ?_
            refine TL.vE (Val.move 1 rfl rfl) ?_
            refine TL.nil ?_
            show TC _ _ _ _ _ _
            refine TC.block ?_
            refine TC.loop (fun μ st => ∃ j : Nat, (j ≤ p.length ∧ (p.take j).all progOk = true) ∧ μ = p.length - j ∧ Can st ⟨[.one .dead, .one (.ptr ⟨1, [], 0⟩), .one .dead, .one .dead, .one .dead, .one .dead, .one .dead, .one .dead, .one .dead, .one .dead, .one .dead, .one .dead, .one .dead, .one .dead, .one .dead, .one .dead, .one .dead, .one .dead, .one .dead, .one .dead, .one .dead, L 1 (x.All.map dInsSS), I (x.All.map dInsSS).length, I m, .one .dead, .one .dead, .one .dead, .one .dead, .one .dead, .one .dead, .one .dead, L 1 (p.map dInsS), I (p.map dInsS).length, I j, .one .dead, .one .dead, .one .dead, .one .dead, .one .dead, .one .dead, .one .dead, .one .dead, .one .dead, .one .dead, .one .dead, .one .dead, .one .dead, .one .dead, .one .dead, .one .dead, .one .dead, .one .dead, .one .dead], [(1, ⟨true, [.ro (.sl 1 (x.All.map dInsSS)), .ro (.sl 6 (x.Acts.map dAct))]⟩)]⟩) (p.length) ?_ fun μ st hI => ?_
            · refine ⟨0, by simp, by simp, ?_⟩
              exact Can.to (by repeat first | exact LessT.nil | refine LessT.drop ?_ | refine LessT.keep ?_ | refine LessT.eq (by simp) ?_) (by repeat first | exact .nil | refine .cons rfl rfl ?_)
            · obtain ⟨j, hypj, rfl, hcan⟩ := hI
              refine TC.can hcan ?_
              clear hcan
              refine TC.seq ?_
              refine TC.region ?_
              refine TL.vE (Val.lss rfl rfl rfl) ?_
              refine TL.nil ?_
              show TC _ _ _ _ _ _
              refine TC.seq ?_
              refine TC.cond rfl (fun hb => ?_) (fun hb => ?_)
              · refine TC.skip ?_
                show TC _ _ _ _ _ _
                refine TC.seq ?_
                refine TC.block ?_
                refine TC.seq ?_
                refine TC.most (i := 31) rfl rfl fun hm0 => ?_
                simp only [most, List.length_map] at hm0
                have hj : j < p.length := by simpa using hb
                obtain ⟨u, hu⟩ := at_of (xs := p) (k := j) hj
                refine TC.region ?_
                refine TL.vE (by exact Val.indexC (d := dInsS u) rfl rfl rfl rfl rfl (by omega) (by simp [hu])) ?_
                refine TL.ld ?_
                refine TL.vE (Val.assign 1 rfl rfl) ?_
                refine TL.nil ?_
                show TC _ _ _ _ _ _
                refine TC.seq ?_
                refine TC.region ?_
                refine TL.vE (Val.move 1 rfl rfl) ?_
                refine TL.callF (yes_none rfl) rfl rfl rfl rfl rfl rfl ((impl_ProgOk_f u).k) (by repeat first | exact .nil | refine Snaps.cons (.ro _) ?_ | refine Snaps.cons (.aggRo rfl) ?_ | refine Snaps.cons (.cptr _) ?_ | refine Snaps.cons (.fn _) ?_ | refine Snaps.cons (.ownRef rfl (by first | assumption | exact w_InsS _ | exact w_InsSS _ | exact w_InsSSS _ | exact w_ActS _)) ?_ | refine Snaps.cons (.aggR (by repeat first | exact .nil | refine SnapCs.cons (.ro _) ?_ | refine SnapCs.cons (.ref rfl (by first | assumption | exact w_InsS _ | exact w_InsSS _ | exact w_InsSSS _ | exact w_ActS _)) ?_)) ?_) rfl (by simp only [nput]; rfl) ?_
                refine TL.vE (Val.not rfl rfl) ?_
                refine TL.nil ?_
                show TC _ _ _ _ _ _
                refine TC.cond rfl (fun hb => ?_) (fun hb => ?_)
                · refine TC.seq ?_
                  have hf : x.All.all monOk = false := all_off hp (mon_off (all_off hu (by simpa using hb)))
                  refine TC.region ?_
                  refine TL.vE (Val.assign 1 rfl rfl) ?_
                  refine TL.nil ?_
                  show TC _ _ _ _ _ _
                  refine TC.ret ?_
                  exact ⟨.inr rfl, [_], [_], _, rfl, by decide, rfl, by simp [refV, refC, valC], rfl, resV (by simp [scriptOk, hf])⟩
                · refine TC.skip ?_
                  show TC _ _ _ _ _ _
                  refine TC.region ?_
                  refine TL.vE (Val.addO rfl rfl rfl) ?_
                  refine TL.vE (Val.move 1 rfl rfl) ?_
                  refine TL.nil ?_
                  first | refine Seq.normal ⟨_, ?_, j + 1, ?_, rfl, ?_⟩ | refine Seq.normal (Q := fun _ _ => True) ⟨_, ?_, j + 1, ?_, rfl, ?_⟩
                  · omega
                  · exact ⟨by omega, all_step hypj.2 hu (by simpa using hb)⟩
                  · exact Can.to (by repeat first | exact LessT.nil | refine LessT.drop ?_ | refine LessT.keep ?_ | refine LessT.eq (by simp) ?_) (by repeat first | exact .nil | refine .cons rfl rfl ?_)
              · refine TC.exit ?_
                show TC _ _ _ _ _ _
                have hmo : monOk p = true := mon_yes hpl (all_all hypj.2 (by simp at hb; omega))
                refine TC.region ?_
                refine TL.vE (Val.addO rfl rfl rfl) ?_
                refine TL.vE (Val.move 1 rfl rfl) ?_
                refine TL.nil ?_
                first | refine Seq.normal ⟨_, ?_, m + 1, ?_, rfl, ?_⟩ | refine Seq.normal (Q := fun _ _ => True) ⟨_, ?_, m + 1, ?_, rfl, ?_⟩
                · omega
                · exact ⟨by omega, all_step hyp.2 hp hmo⟩
                · exact Can.to (by repeat first | exact LessT.nil | refine LessT.drop ?_ | refine LessT.keep ?_ | refine LessT.eq (by simp) ?_) (by repeat first | exact .nil | refine .cons rfl rfl ?_)
        · refine TC.exit ?_
          show TC _ _ _ _ _ _
          refine TC.seq ?_
          refine TC.seq ?_
          have hA : x.All.all monOk = true := all_all hyp.2 (by simp at hb; omega)
          refine TC.region ?_
          refine TL.fld ?_
          refine TL.ld ?_
          refine TL.vE (by first | exact Val.len rfl rfl rfl rfl | exact Val.lenS rfl rfl rfl) ?_
          refine TL.vE (Val.move 1 rfl rfl) ?_
          refine TL.nil ?_
          show TC _ _ _ _ _ _
          refine TC.block ?_
          refine TC.loop (fun μ st => ∃ k : Nat, (k ≤ x.Acts.length ∧ (x.Acts.take k).all actFine = true) ∧ μ = x.Acts.length - k ∧ Can st ⟨[.one .dead, .one (.ptr ⟨1, [], 0⟩), .one .dead, .one .dead, .one .dead, .one .dead, .one .dead, .one .dead, .one .dead, .one .dead, .one .dead, .one .dead, .one .dead, .one .dead, .one .dead, .one .dead, .one .dead, .one .dead, .one .dead, .one .dead, .one .dead, .one .dead, .one .dead, .one .dead, .one .dead, .one .dead, .one .dead, .one .dead, .one .dead, .one .dead, .one .dead, .one .dead, .one .dead, .one .dead, .one .dead, .one .dead, .one .dead, .one .dead, .one .dead, .one .dead, .one .dead, .one .dead, .one .dead, L 6 (x.Acts.map dAct), I (x.Acts.map dAct).length, I k, .one .dead, .one .dead, .one .dead, .one .dead, .one .dead, .one .dead, .one .dead], [(1, ⟨true, [.ro (.sl 1 (x.All.map dInsSS)), .ro (.sl 6 (x.Acts.map dAct))]⟩)]⟩) (x.Acts.length) ?_ fun μ st hI => ?_
          · refine ⟨0, by simp, by simp, ?_⟩
            exact Can.to (by repeat first | exact LessT.nil | refine LessT.drop ?_ | refine LessT.keep ?_ | refine LessT.eq (by simp) ?_) (by repeat first | exact .nil | refine .cons rfl rfl ?_)
          · obtain ⟨k, hypk, rfl, hcan⟩ := hI
            refine TC.can hcan ?_
            clear hcan
            refine TC.seq ?_
            refine TC.region ?_
            refine TL.vE (Val.lss rfl rfl rfl) ?_
            refine TL.nil ?_
            show TC _ _ _ _ _ _
            refine TC.seq ?_
            refine TC.cond rfl (fun hb => ?_) (fun hb => ?_)
            · refine TC.skip ?_
              show TC _ _ _ _ _ _
              refine TC.seq ?_
              refine TC.block ?_
              refine TC.seq ?_
              refine TC.most (i := 43) rfl rfl fun hm0 => ?_
              simp only [most, List.length_map] at hm0
              have hk : k < x.Acts.length := by simpa using hb
              obtain ⟨a, ha⟩ := at_of (xs := x.Acts) (k := k) hk
              refine TC.region ?_
              refine TL.vE (by exact Val.indexC (d := dAct a) rfl rfl rfl rfl rfl (by omega) (by simp [ha])) ?_
              refine TL.valE rfl (by first | exact Val.loadCAgg (n := 6) rfl rfl rfl rfl (Nat.le_of_ble_eq_true rfl) | exact Val.loadAgg (n := 6) rfl rfl rfl rfl (by simp [St.cellsAt, St.cellAt, St.root, valC]; rfl) rfl | exact Val.loadAgg (n := 6) rfl rfl rfl rfl rfl rfl) (by simp only [St.put, List.set_cons_succ, List.set_cons_zero, valC, dAct, rAct, D.row, List.take_succ_cons, List.take_zero, List.map_cons, List.map_nil]; rfl) ?_
              refine TL.opK rfl fun K hK => ?_
              refine OpT.alloc rfl rfl rfl rfl rfl rfl ?_
              simp only [nrm, Nat.reduceBEq, Nat.reduceBNe, reduceIte]
              refine hK _ ?_
              clear hK K
              refine TL.opK rfl fun K hK => ?_
              refine OpT.storeAgg rfl rfl rfl rfl rfl rfl (by simp [St.store1, St.storeAll, St.cellAt, St.isMem, St.root, St.wrote, St.kill, St.setRoot, TS.kill, TV.kill, C.kill, Rt.kill, hitR, hitP, shapeOf, setRow, setAt, rowAt, D.row, D.reRow, List.isPrefixOf]; rfl) ?_ -- None
              simp only [nrm, Nat.reduceBEq, Nat.reduceBNe, reduceIte]
              refine hK _ ?_
              clear hK K
              refine TL.nil ?_
              show TC _ _ _ _ _ _
              refine TC.seq ?_
              refine TC.region ?_
              refine TL.valE rfl (by first | exact Val.loadCAgg (n := 6) rfl rfl rfl rfl (Nat.le_of_ble_eq_true rfl) | exact Val.loadAgg (n := 6) rfl rfl rfl rfl (by simp [St.cellsAt, St.cellAt, St.root, valC]; rfl) rfl | exact Val.loadAgg (n := 6) rfl rfl rfl rfl rfl rfl) (by simp only [St.put, List.set_cons_succ, List.set_cons_zero, valC, dAct, rAct, D.row, List.take_succ_cons, List.take_zero, List.map_cons, List.map_nil]; rfl) ?_
              refine TL.callF (yes_none rfl) rfl rfl rfl rfl rfl rfl ((impl_ActLine_f a).k) (by repeat first | exact .nil | refine Snaps.cons (.ro _) ?_ | refine Snaps.cons (.aggRo rfl) ?_ | refine Snaps.cons (.cptr _) ?_ | refine Snaps.cons (.fn _) ?_ | refine Snaps.cons (.ownRef rfl (by first | assumption | exact w_InsS _ | exact w_InsSS _ | exact w_InsSSS _ | exact w_ActS _)) ?_ | refine Snaps.cons (.aggR (by repeat first | exact .nil | refine SnapCs.cons (.ro _) ?_ | refine SnapCs.cons (.ref rfl (by first | assumption | exact w_InsS _ | exact w_InsSS _ | exact w_InsSSS _ | exact w_ActS _)) ?_)) ?_) rfl (by simp only [nput]; rfl) ?_
              refine TL.vE (Val.eqlS rfl rfl rfl) ?_
              refine TL.nil ?_
              show TC _ _ _ _ _ _
              refine TC.cond rfl (fun hb => ?_) (fun hb => ?_)
              · refine TC.seq ?_
                have hf : x.Acts.all actFine = false := all_off ha (by rw [ba_beq] at hb; simpa [actFine] using hb)
                refine TC.region ?_
                refine TL.vE (Val.assign 1 rfl rfl) ?_
                refine TL.nil ?_
                show TC _ _ _ _ _ _
                refine TC.ret ?_
                exact ⟨.inr rfl, [_], [_], _, rfl, by decide, rfl, by simp [refV, refC, valC], rfl, resV (by simp [scriptOk, hf])⟩
              · refine TC.skip ?_
                show TC _ _ _ _ _ _
                refine TC.region ?_
                refine TL.vE (Val.addO rfl rfl rfl) ?_
                refine TL.vE (Val.move 1 rfl rfl) ?_
                refine TL.nil ?_
                first | refine Seq.normal ⟨_, ?_, k + 1, ?_, rfl, ?_⟩ | refine Seq.normal (Q := fun _ _ => True) ⟨_, ?_, k + 1, ?_, rfl, ?_⟩
                · omega
                · exact ⟨by omega, all_step hypk.2 ha (by rw [ba_beq] at hb; simpa [actFine] using hb)⟩
                · exact Can.to (by repeat first | exact LessT.nil | refine LessT.drop ?_ | refine LessT.keep ?_ | refine LessT.eq (by simp) ?_) (by repeat first | exact .nil | refine .cons rfl rfl ?_)
            · refine TC.exit ?_
              show TC _ _ _ _ _ _
              refine TC.seq ?_
              have hC : x.Acts.all actFine = true := all_all hypk.2 (by simp at hb; omega)
              refine TC.region ?_
              refine TL.vE (Val.assign 1 rfl rfl) ?_
              refine TL.nil ?_
              show TC _ _ _ _ _ _
              refine TC.ret ?_
              exact ⟨.inr rfl, [_], [_], _, rfl, by decide, rfl, by simp [refV, refC, valC], rfl, resV (by simp only [scriptOk, hl, hA, hC, Bool.and_self])⟩
end Go.Proofs.YtfbjcdhphhfpfaaGreatDoor.T

