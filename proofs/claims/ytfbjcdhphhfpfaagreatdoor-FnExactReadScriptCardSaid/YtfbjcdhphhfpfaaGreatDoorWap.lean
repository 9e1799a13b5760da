/- Numerals, names and lines of instructions: both sides' walks. PRINTED by gen.py out of spec_ins.py. -/
import Derived.Test.YtfbjcdhphhfpfaaGreatDoorT3p
import Derived.Test.YtfbjcdhphhfpfaaGreatDoorTzcp
namespace Go.Proofs.YtfbjcdhphhfpfaaGreatDoor.T
open Go
set_option linter.unusedVariables false
set_option linter.unusedSimpArgs false
set_option maxRecDepth 100000
set_option maxHeartbeats 1000000

theorem at_of {α : Type} {xs : List α} {k : Nat} (h : k < xs.length) : ∃ x, xs[k]? = some x := ⟨xs[k], List.getElem?_eq_getElem h⟩
theorem eq_step {α : Type} {xs ys : List α} {k : Nat} {x : α} (h : xs.take k = ys.take k) (hx : xs[k]? = some x) (hy : ys[k]? = some x) : xs.take (k + 1) = ys.take (k + 1) := by
  rw [List.take_add_one, List.take_add_one, h, hx, hy]
theorem eq_off {α : Type} {xs ys : List α} {k : Nat} {x y : α} (hx : xs[k]? = some x) (hy : ys[k]? = some y) (h : x ≠ y) : xs ≠ ys := fun e => by
  subst e
  rw [hx] at hy
  exact h (Option.some.inj hy)
theorem eq_all {α : Type} {xs ys : List α} {k : Nat} (hl : xs.length = ys.length) (h : xs.take k = ys.take k) (hk : xs.length ≤ k) : xs = ys := by
  rwa [List.take_of_length_le hk, List.take_of_length_le (by omega)] at h
abbrev dInt (x : Int) : D := .v (.int .i64 x)
structure VAct where
  Kind : Int
  M : Int
  G : Int
  X : Int
  Y : Int
  Z : Int
  deriving DecidableEq
abbrev rAct (x : VAct) : List D := [.v (.int .i64 x.Kind), .v (.int .i64 x.M), .v (.int .i64 x.G), .v (.int .i64 x.X), .v (.int .i64 x.Y), .v (.int .i64 x.Z)]
abbrev dAct (x : VAct) : D := .st (rAct x)
theorem wh_Act (x : VAct) : ∀ c ∈ (dAct x).row, Whole c := by
  intro c hc
  simp only [D.row, rAct, List.mem_cons, List.not_mem_nil, or_false] at hc
  rcases hc with rfl | rfl | rfl | rfl | rfl | rfl
  all_goals first | exact .v _
structure VIns where
  Op : Int
  X : Int
  deriving DecidableEq
abbrev rIns (x : VIns) : List D := [.v (.int .i64 x.Op), .v (.int .i64 x.X)]
abbrev dIns (x : VIns) : D := .st (rIns x)
theorem wh_Ins (x : VIns) : ∀ c ∈ (dIns x).row, Whole c := by
  intro c hc
  simp only [D.row, rIns, List.mem_cons, List.not_mem_nil, or_false] at hc
  rcases hc with rfl | rfl
  all_goals first | exact .v _
abbrev dInsS (xs : List VIns) : D := .sl 2 (xs.map dIns)
theorem w_InsS (xs : List VIns) : Whole (.sl 2 (xs.map dIns)) := whole_map _ xs wh_Ins
theorem wh_InsS (xs : List VIns) : ∀ c ∈ (dInsS xs).row, Whole c := by intro c hc; simp only [D.row, List.mem_cons, List.not_mem_nil, or_false] at hc; subst hc; exact w_InsS xs
def SmInsS (xs : List VIns) : Prop := xs.length ≤ 1048576
abbrev dInsSS (xs : List (List VIns)) : D := .sl 1 (xs.map dInsS)
theorem w_InsSS (xs : List (List VIns)) : Whole (.sl 1 (xs.map dInsS)) := whole_map _ xs wh_InsS
theorem wh_InsSS (xs : List (List VIns)) : ∀ c ∈ (dInsSS xs).row, Whole c := by intro c hc; simp only [D.row, List.mem_cons, List.not_mem_nil, or_false] at hc; subst hc; exact w_InsSS xs
def SmInsSS (xs : List (List VIns)) : Prop := xs.length ≤ 1048576 ∧ ∀ x ∈ xs, SmInsS x
theorem w_InsSSS (xs : List (List (List VIns))) : Whole (.sl 1 (xs.map dInsSS)) := whole_map _ xs wh_InsSS
def SmInsSSS (xs : List (List (List VIns))) : Prop := xs.length ≤ 1048576 ∧ ∀ x ∈ xs, SmInsSS x
theorem w_ActS (xs : List VAct) : Whole (.sl 6 (xs.map dAct)) := whole_map _ xs wh_Act
def SmActS (xs : List VAct) : Prop := xs.length ≤ 1048576
structure VScript where
  All : List (List (List VIns))
  Acts : List VAct
  deriving DecidableEq
abbrev rScript (x : VScript) : List D := [.sl 1 (x.All.map dInsSS), .sl 6 (x.Acts.map dAct)]
abbrev dScript (x : VScript) : D := .st (rScript x)
def SmScript (x : VScript) : Prop := SmInsSSS x.All ∧ SmActS x.Acts
def inR (n a b : Int) : Bool := decide (a ≤ n) && decide (n ≤ b)
theorem all_step {α : Type} {P : α → Bool} {xs : List α} {k : Nat} {x : α} (h : (xs.take k).all P = true) (hx : xs[k]? = some x) (hp : P x = true) : (xs.take (k + 1)).all P = true := by
  rw [List.take_add_one, hx, List.all_append, h]
  simp [hp]
theorem all_off {α : Type} {P : α → Bool} {xs : List α} {k : Nat} {x : α} (hx : xs[k]? = some x) (hp : P x = false) : xs.all P = false := by
  rw [List.all_eq_false]
  exact ⟨x, List.mem_of_getElem? hx, by simp [hp]⟩
theorem all_all {α : Type} {P : α → Bool} {xs : List α} {k : Nat} (h : (xs.take k).all P = true) (hk : xs.length ≤ k) : xs.all P = true := by
  rwa [List.take_of_length_le hk] at h

def insOk (i : VIns) : Bool :=
  if i.Op = 1 ∨ i.Op = 2 ∨ i.Op = 5 ∨ i.Op = 6 then inR i.X 0 99 else if i.Op = 3 ∨ i.Op = 4 then inR i.X 0 15 else if i.Op = 7 then decide (i.X = 0) else if i.Op = 8 then inR i.X 0 11 else false
def progOk (p : List VIns) : Bool := p.all insOk && inR p.length 1 12
abbrev I64 (n : Int) : Prop := -9223372036854775808 ≤ n ∧ n ≤ 9223372036854775807
def opNames : List ByteArray := ["set".toUTF8, "add".toUTF8, "load".toUTF8, "store".toUTF8, "out".toUTF8, "call".toUTF8, "halt".toUTF8, "jump".toUTF8]
def specOps : List ByteArray := ⟨#[]⟩ :: opNames
def opName (op : Int) : ByteArray := if inR op 1 8 then (opNames[(op - 1).toNat]?).getD ⟨#[]⟩ else ⟨#[63]⟩
theorem opName_size (op : Int) : (opName op).size ≤ 5 := by
  unfold opName
  split
  · rename_i h
    simp only [inR, Bool.and_eq_true, decide_eq_true_eq] at h
    have : op = 1 ∨ op = 2 ∨ op = 3 ∨ op = 4 ∨ op = 5 ∨ op = 6 ∨ op = 7 ∨ op = 8 := by omega
    rcases this with rfl | rfl | rfl | rfl | rfl | rfl | rfl | rfl <;> decide +kernel
  · decide +kernel
def insLine (i : VIns) : ByteArray := if insOk i then opName i.Op ++ ⟨#[32]⟩ ++ dec i.X else ⟨#[]⟩
theorem insOk_x {i : VIns} (h : insOk i = true) : I64 i.X := by
  unfold insOk at h
  repeat' split at h
  all_goals first | (simp only [inR, Bool.and_eq_true, decide_eq_true_eq] at h; exact ⟨by omega, by omega⟩) | cases h
def figure (x : Int) : Int := if x < 10 then 48 + x else 87 + x
theorem spec_l01In_f (n a b : Int) : Fun Tryz.prog 30 [I n, I a, I b] (RV (.bool (inR n a b))) := by
  refine Fun.of Tryz.func30 rfl (by simp [Tryz.ntmps30]) fun w g0 => ?_
  simp only [Tryz.ntmps30, List.length_cons, List.length_nil, Nat.reduceAdd, Nat.reduceSub, List.replicate, List.cons_append, List.nil_append]
  refine TC.seq ?_
  refine TC.region ?_
  refine TL.vE (Val.assign 1 rfl rfl) ?_
  refine TL.nil ?_
  show TC _ _ _ _ _ _
  refine TC.seq ?_
  refine TC.region ?_
  refine TL.vE (Val.move 1 rfl rfl) ?_
  refine TL.vE (Val.move 1 rfl rfl) ?_
  refine TL.vE (Val.geq rfl rfl rfl) ?_
  refine TL.vE (Val.move 1 rfl rfl) ?_
  refine TL.splitG 3 rfl (fun hg3 => ?_) (fun hg3 => ?_)
  · refine TL.gE rfl hg3 (Val.move 1 rfl rfl) ?_
    refine TL.gE rfl hg3 (Val.move 1 rfl rfl) ?_
    refine TL.gE rfl hg3 (Val.leq rfl rfl rfl) ?_
    refine TL.vE (Val.pickT rfl rfl hg3 rfl) ?_
    refine TL.vE (Val.assign 1 rfl rfl) ?_
    refine TL.nil ?_
    show TC _ _ _ _ _ _
    refine TC.ret ?_
    exact ⟨.inr rfl, [_], [_], _, rfl, by decide, rfl, by simp [refV, refC, valC], rfl, resV (by simp_all [inR] <;> (try intros) <;> omega)⟩
  · iterate 3 (refine TL.skip (nope_b rfl rfl hg3) (by simp only [nput]; rfl) ?_)
    refine TL.vE (Val.pickF rfl rfl hg3 rfl) ?_
    refine TL.vE (Val.assign 1 rfl rfl) ?_
    refine TL.nil ?_
    show TC _ _ _ _ _ _
    refine TC.ret ?_
    exact ⟨.inr rfl, [_], [_], _, rfl, by decide, rfl, by simp [refV, refC, valC], rfl, resV (by simp_all [inR] <;> (try intros) <;> omega)⟩

theorem spec_InsOk_f (x : VIns) : Fun Tryz.prog 47 [A (rIns x)] (RV (.bool (insOk x))) := by
  refine Fun.of Tryz.func47 rfl (by simp [Tryz.ntmps47]) fun w g0 => ?_
  simp only [Tryz.ntmps47, List.length_cons, List.length_nil, Nat.reduceAdd, Nat.reduceSub, List.replicate, List.cons_append, List.nil_append]
  refine TC.seq ?_
  refine TC.region ?_
  refine TL.opK rfl fun K hK => ?_
  first | refine OpT.box rfl rfl (z := 1) rfl (by simp) ?_ | refine OpT.boxAgg rfl rfl rfl ?_
  simp only [nrm, Nat.reduceBEq, Nat.reduceBNe, reduceIte]
  refine hK _ ?_
  clear hK K
  refine TL.vE (Val.assign 1 rfl rfl) ?_
  refine TL.nil ?_
  show TC _ _ _ _ _ _
  refine TC.seq ?_
  refine TC.seq ?_
  refine TC.region ?_
  refine TL.fld ?_
  refine TL.ld ?_
  refine TL.nil ?_
  show TC _ _ _ _ _ _
  refine TC.block ?_
  refine TC.seq ?_
  refine TC.seq ?_
  refine TC.region ?_
  refine TL.vE (Val.eql rfl rfl rfl) ?_
  refine TL.vE (Val.assign 1 rfl rfl) ?_
  refine TL.nil ?_
  show TC _ _ _ _ _ _
  refine TC.cond rfl (fun hb => ?_) (fun hb => ?_)
  · have hk5 := hb
    refine TC.skip ?_
    show TC _ _ _ _ _ _
    refine TC.cond rfl (fun hb => ?_) (fun hc => absurd (hc.symm.trans hk5) (by decide))
    refine TC.seq ?_
    refine TC.region ?_
    refine TL.fld ?_
    refine TL.ld ?_
    refine TL.cF ((spec_l01In_f _ _ _).k) ?_
    refine TL.vE (Val.assign 1 rfl rfl) ?_
    refine TL.nil ?_
    show TC _ _ _ _ _ _
    refine TC.ret ?_
    exact ⟨.inr rfl, [_], [_], _, rfl, by decide, rfl, by simp [refV, refC, valC], rfl, resV (by simp_all [insOk] <;> rfl)⟩
  have hk5 := hb
  refine TC.seq ?_
  refine TC.region ?_
  refine TL.vE (Val.eql rfl rfl rfl) ?_
  refine TL.vE (Val.assign 1 rfl rfl) ?_
  refine TL.nil ?_
  show TC _ _ _ _ _ _
  refine TC.cond rfl (fun hb => ?_) (fun hb => ?_)
  · have hk5 := hb
    refine TC.skip ?_
    show TC _ _ _ _ _ _
    refine TC.cond rfl (fun hb => ?_) (fun hc => absurd (hc.symm.trans hk5) (by decide))
    refine TC.seq ?_
    refine TC.region ?_
    refine TL.fld ?_
    refine TL.ld ?_
    refine TL.cF ((spec_l01In_f _ _ _).k) ?_
    refine TL.vE (Val.assign 1 rfl rfl) ?_
    refine TL.nil ?_
    show TC _ _ _ _ _ _
    refine TC.ret ?_
    exact ⟨.inr rfl, [_], [_], _, rfl, by decide, rfl, by simp [refV, refC, valC], rfl, resV (by simp_all [insOk] <;> rfl)⟩
  have hk5 := hb
  refine TC.seq ?_
  refine TC.region ?_
  refine TL.vE (Val.eql rfl rfl rfl) ?_
  refine TL.vE (Val.assign 1 rfl rfl) ?_
  refine TL.nil ?_
  show TC _ _ _ _ _ _
  refine TC.cond rfl (fun hb => ?_) (fun hb => ?_)
  · have hk5 := hb
    refine TC.skip ?_
    show TC _ _ _ _ _ _
    refine TC.cond rfl (fun hb => ?_) (fun hc => absurd (hc.symm.trans hk5) (by decide))
    refine TC.seq ?_
    refine TC.region ?_
    refine TL.fld ?_
    refine TL.ld ?_
    refine TL.cF ((spec_l01In_f _ _ _).k) ?_
    refine TL.vE (Val.assign 1 rfl rfl) ?_
    refine TL.nil ?_
    show TC _ _ _ _ _ _
    refine TC.ret ?_
    exact ⟨.inr rfl, [_], [_], _, rfl, by decide, rfl, by simp [refV, refC, valC], rfl, resV (by simp_all [insOk] <;> rfl)⟩
  have hk5 := hb
  refine TC.region ?_
  refine TL.vE (Val.eql rfl rfl rfl) ?_
  refine TL.vE (Val.assign 1 rfl rfl) ?_
  refine TL.nil ?_
  show TC _ _ _ _ _ _
  refine TC.cond rfl (fun hb => ?_) (fun hb => ?_)
  · have hk5 := hb
    refine TC.seq ?_
    refine TC.region ?_
    refine TL.fld ?_
    refine TL.ld ?_
    refine TL.cF ((spec_l01In_f _ _ _).k) ?_
    refine TL.vE (Val.assign 1 rfl rfl) ?_
    refine TL.nil ?_
    show TC _ _ _ _ _ _
    refine TC.ret ?_
    exact ⟨.inr rfl, [_], [_], _, rfl, by decide, rfl, by simp [refV, refC, valC], rfl, resV (by simp_all [insOk] <;> rfl)⟩
  have hk5 := hb
  refine TC.seq ?_
  refine TC.seq ?_
  refine TC.region ?_
  refine TL.vE (Val.eql rfl rfl rfl) ?_
  refine TL.vE (Val.assign 1 rfl rfl) ?_
  refine TL.nil ?_
  show TC _ _ _ _ _ _
  refine TC.cond rfl (fun hb => ?_) (fun hb => ?_)
  · have hk13 := hb
    refine TC.skip ?_
    show TC _ _ _ _ _ _
    refine TC.cond rfl (fun hb => ?_) (fun hc => absurd (hc.symm.trans hk13) (by decide))
    refine TC.seq ?_
    refine TC.region ?_
    refine TL.fld ?_
    refine TL.ld ?_
    refine TL.cF ((spec_l01In_f _ _ _).k) ?_
    refine TL.vE (Val.assign 1 rfl rfl) ?_
    refine TL.nil ?_
    show TC _ _ _ _ _ _
    refine TC.ret ?_
    exact ⟨.inr rfl, [_], [_], _, rfl, by decide, rfl, by simp [refV, refC, valC], rfl, resV (by simp_all [insOk] <;> rfl)⟩
  have hk13 := hb
  refine TC.region ?_
  refine TL.vE (Val.eql rfl rfl rfl) ?_
  refine TL.vE (Val.assign 1 rfl rfl) ?_
  refine TL.nil ?_
  show TC _ _ _ _ _ _
  refine TC.cond rfl (fun hb => ?_) (fun hb => ?_)
  · have hk13 := hb
    refine TC.seq ?_
    refine TC.region ?_
    refine TL.fld ?_
    refine TL.ld ?_
    refine TL.cF ((spec_l01In_f _ _ _).k) ?_
    refine TL.vE (Val.assign 1 rfl rfl) ?_
    refine TL.nil ?_
    show TC _ _ _ _ _ _
    refine TC.ret ?_
    exact ⟨.inr rfl, [_], [_], _, rfl, by decide, rfl, by simp [refV, refC, valC], rfl, resV (by simp_all [insOk] <;> rfl)⟩
  have hk13 := hb
  refine TC.seq ?_
  refine TC.region ?_
  refine TL.vE (Val.eql rfl rfl rfl) ?_
  refine TL.vE (Val.assign 1 rfl rfl) ?_
  refine TL.nil ?_
  show TC _ _ _ _ _ _
  refine TC.cond rfl (fun hb => ?_) (fun hb => ?_)
  · have hk19 := hb
    refine TC.seq ?_
    refine TC.region ?_
    refine TL.fld ?_
    refine TL.ld ?_
    refine TL.vE (Val.eql rfl rfl rfl) ?_
    refine TL.vE (Val.assign 1 rfl rfl) ?_
    refine TL.nil ?_
    show TC _ _ _ _ _ _
    refine TC.ret ?_
    exact ⟨.inr rfl, [_], [_], _, rfl, by decide, rfl, by simp [refV, refC, valC], rfl, resV (by simp_all [insOk] <;> rfl)⟩
  have hk19 := hb
  refine TC.seq ?_
  refine TC.region ?_
  refine TL.vE (Val.eql rfl rfl rfl) ?_
  refine TL.vE (Val.assign 1 rfl rfl) ?_
  refine TL.nil ?_
  show TC _ _ _ _ _ _
  refine TC.cond rfl (fun hb => ?_) (fun hb => ?_)
  · have hk24 := hb
    refine TC.seq ?_
    refine TC.region ?_
    refine TL.fld ?_
    refine TL.ld ?_
    refine TL.cF ((spec_l01In_f _ _ _).k) ?_
    refine TL.vE (Val.assign 1 rfl rfl) ?_
    refine TL.nil ?_
    show TC _ _ _ _ _ _
    refine TC.ret ?_
    exact ⟨.inr rfl, [_], [_], _, rfl, by decide, rfl, by simp [refV, refC, valC], rfl, resV (by simp_all [insOk] <;> rfl)⟩
  have hk24 := hb
  refine TC.skip ?_
  show TC _ _ _ _ _ _
  refine TC.seq ?_
  refine TC.region ?_
  refine TL.vE (Val.assign 1 rfl rfl) ?_
  refine TL.nil ?_
  show TC _ _ _ _ _ _
  refine TC.ret ?_
  exact ⟨.inr rfl, [_], [_], _, rfl, by decide, rfl, by simp [refV, refC, valC], rfl, resV (by simp_all [insOk] <;> rfl)⟩

theorem spec_OpName_f (op : Int) : Fun Tryz.prog 45 [I op] (RV (.string (opName op))) := by
  refine Fun.of Tryz.func45 rfl (by simp [Tryz.ntmps45]) fun w g0 => ?_
  simp only [Tryz.ntmps45, List.length_cons, List.length_nil, Nat.reduceAdd, Nat.reduceSub, List.replicate, List.cons_append, List.nil_append]
  refine TC.seq ?_
  refine TC.region ?_
  refine TL.vE (Val.assign 1 rfl rfl) ?_
  refine TL.nil ?_
  show TC _ _ _ _ _ _
  refine TC.seq ?_
  refine TC.seq ?_
  refine TC.region ?_
  refine TL.vE (Val.move 1 rfl rfl) ?_
  refine TL.cF ((spec_l01In_f _ _ _).k) ?_
  refine TL.vE (Val.not rfl rfl) ?_
  refine TL.nil ?_
  show TC _ _ _ _ _ _
  refine TC.cond rfl (fun hb => ?_) (fun hb => ?_)
  · have hk5 := hb
    refine TC.seq ?_
    refine TC.region ?_
    refine TL.vE (Val.assign 1 rfl rfl) ?_
    refine TL.nil ?_
    show TC _ _ _ _ _ _
    refine TC.ret ?_
    exact ⟨.inr rfl, [_], [_], _, rfl, by decide, rfl, by simp [refV, refC, valC], rfl, resV (by simp_all [opName, specOps])⟩
  have hk5 := hb
  refine TC.skip ?_
  show TC _ _ _ _ _ _
  refine TC.seq ?_
  have hr : 1 ≤ op ∧ op ≤ 8 := by simpa [inR] using hb
  obtain ⟨u, hu⟩ := at_of (xs := specOps) (k := op.toNat) (by simp [specOps, opNames]; omega)
  have hu2 : opNames[(op - 1).toNat]? = some u := by rw [show op.toNat = (op - 1).toNat + 1 by omega] at hu; exact hu
  refine TC.region ?_
  refine TL.opK rfl fun K hK => ?_
  refine OpT.buildP rfl rfl (xs := specOps.map fun s => .const (.string s)) rfl rfl (tvs := specOps.map fun s => .c (.ro (.v (.string s)))) rfl rfl (sz := 1) rfl rfl rfl (by decide) (by decide) ?_
  simp only [nrm, Nat.reduceBEq, Nat.reduceBNe, reduceIte]
  refine hK _ ?_
  clear hK K
  refine TL.vE (Val.move 1 rfl rfl) ?_
  refine TL.vE (by exact Val.index rfl rfl rfl rfl rfl rfl (by omega) (by simp [specOps, opNames]; omega)) ?_
  refine TL.valE rfl (by exact Val.load rfl rfl rfl (c := .own (.v (.string u))) (by simp [St.cellAt, St.root, rowAt, D.row, elD, cellD, hu]) rfl) (by simp only [nput, valC]; rfl) ?_
  refine TL.vE (Val.assign 1 rfl rfl) ?_
  refine TL.nil ?_
  show TC _ _ _ _ _ _
  refine TC.ret ?_
  exact ⟨.inr rfl, [_], [_], _, rfl, by decide, rfl, by simp [refV, refC, valC], rfl, resV (by unfold opName; rw [if_pos (by simpa using hb), hu2]; rfl)⟩

theorem impl_within_f (n a b : Int) : Fun Tryz.prog 33 [I n, I a, I b] (RV (.bool (inR n a b))) := by
  refine Fun.of Tryz.func33 rfl (by simp [Tryz.ntmps33]) fun w g0 => ?_
  simp only [Tryz.ntmps33, List.length_cons, List.length_nil, Nat.reduceAdd, Nat.reduceSub, List.replicate, List.cons_append, List.nil_append]
  refine TC.seq ?_
  refine TC.region ?_
  refine TL.vE (Val.assign 1 rfl rfl) ?_
  refine TL.nil ?_
  show TC _ _ _ _ _ _
  refine TC.seq ?_
  refine TC.region ?_
  refine TL.vE (Val.move 1 rfl rfl) ?_
  refine TL.vE (Val.move 1 rfl rfl) ?_
  refine TL.vE (Val.geq rfl rfl rfl) ?_
  refine TL.vE (Val.move 1 rfl rfl) ?_
  refine TL.splitG 3 rfl (fun hg3 => ?_) (fun hg3 => ?_)
  · refine TL.gE rfl hg3 (Val.move 1 rfl rfl) ?_
    refine TL.gE rfl hg3 (Val.move 1 rfl rfl) ?_
    refine TL.gE rfl hg3 (Val.leq rfl rfl rfl) ?_
    refine TL.vE (Val.pickT rfl rfl hg3 rfl) ?_
    refine TL.vE (Val.assign 1 rfl rfl) ?_
    refine TL.nil ?_
    show TC _ _ _ _ _ _
    refine TC.ret ?_
    exact ⟨.inr rfl, [_], [_], _, rfl, by decide, rfl, by simp [refV, refC, valC], rfl, resV (by simp_all [inR] <;> (try intros) <;> omega)⟩
  · iterate 3 (refine TL.skip (nope_b rfl rfl hg3) (by simp only [nput]; rfl) ?_)
    refine TL.vE (Val.pickF rfl rfl hg3 rfl) ?_
    refine TL.vE (Val.assign 1 rfl rfl) ?_
    refine TL.nil ?_
    show TC _ _ _ _ _ _
    refine TC.ret ?_
    exact ⟨.inr rfl, [_], [_], _, rfl, by decide, rfl, by simp [refV, refC, valC], rfl, resV (by simp_all [inR] <;> (try intros) <;> omega)⟩

theorem impl_InsOk_f (x : VIns) : Fun Tryz.prog 57 [A (rIns x)] (RV (.bool (insOk x))) := by
  refine Fun.of Tryz.func57 rfl (by simp [Tryz.ntmps57]) fun w g0 => ?_
  simp only [Tryz.ntmps57, List.length_cons, List.length_nil, Nat.reduceAdd, Nat.reduceSub, List.replicate, List.cons_append, List.nil_append]
  refine TC.seq ?_
  refine TC.region ?_
  refine TL.opK rfl fun K hK => ?_
  first | refine OpT.box rfl rfl (z := 1) rfl (by simp) ?_ | refine OpT.boxAgg rfl rfl rfl ?_
  simp only [nrm, Nat.reduceBEq, Nat.reduceBNe, reduceIte]
  refine hK _ ?_
  clear hK K
  refine TL.vE (Val.assign 1 rfl rfl) ?_
  refine TL.nil ?_
  show TC _ _ _ _ _ _
  refine TC.seq ?_
  refine TC.seq ?_
  refine TC.region ?_
  refine TL.fld ?_
  refine TL.ld ?_
  refine TL.nil ?_
  show TC _ _ _ _ _ _
  refine TC.block ?_
  refine TC.seq ?_
  refine TC.seq ?_
  refine TC.region ?_
  refine TL.vE (Val.eql rfl rfl rfl) ?_
  refine TL.vE (Val.assign 1 rfl rfl) ?_
  refine TL.nil ?_
  show TC _ _ _ _ _ _
  refine TC.cond rfl (fun hb => ?_) (fun hb => ?_)
  · have hk5 := hb
    refine TC.skip ?_
    show TC _ _ _ _ _ _
    refine TC.cond rfl (fun hb => ?_) (fun hc => absurd (hc.symm.trans hk5) (by decide))
    refine TC.seq ?_
    refine TC.region ?_
    refine TL.fld ?_
    refine TL.ld ?_
    refine TL.cF ((impl_within_f _ _ _).k) ?_
    refine TL.vE (Val.assign 1 rfl rfl) ?_
    refine TL.nil ?_
    show TC _ _ _ _ _ _
    refine TC.ret ?_
    exact ⟨.inr rfl, [_], [_], _, rfl, by decide, rfl, by simp [refV, refC, valC], rfl, resV (by simp_all [insOk] <;> rfl)⟩
  have hk5 := hb
  refine TC.seq ?_
  refine TC.region ?_
  refine TL.vE (Val.eql rfl rfl rfl) ?_
  refine TL.vE (Val.assign 1 rfl rfl) ?_
  refine TL.nil ?_
  show TC _ _ _ _ _ _
  refine TC.cond rfl (fun hb => ?_) (fun hb => ?_)
  · have hk5 := hb
    refine TC.skip ?_
    show TC _ _ _ _ _ _
    refine TC.cond rfl (fun hb => ?_) (fun hc => absurd (hc.symm.trans hk5) (by decide))
    refine TC.seq ?_
    refine TC.region ?_
    refine TL.fld ?_
    refine TL.ld ?_
    refine TL.cF ((impl_within_f _ _ _).k) ?_
    refine TL.vE (Val.assign 1 rfl rfl) ?_
    refine TL.nil ?_
    show TC _ _ _ _ _ _
    refine TC.ret ?_
    exact ⟨.inr rfl, [_], [_], _, rfl, by decide, rfl, by simp [refV, refC, valC], rfl, resV (by simp_all [insOk] <;> rfl)⟩
  have hk5 := hb
  refine TC.seq ?_
  refine TC.region ?_
  refine TL.vE (Val.eql rfl rfl rfl) ?_
  refine TL.vE (Val.assign 1 rfl rfl) ?_
  refine TL.nil ?_
  show TC _ _ _ _ _ _
  refine TC.cond rfl (fun hb => ?_) (fun hb => ?_)
  · have hk5 := hb
    refine TC.skip ?_
    show TC _ _ _ _ _ _
    refine TC.cond rfl (fun hb => ?_) (fun hc => absurd (hc.symm.trans hk5) (by decide))
    refine TC.seq ?_
    refine TC.region ?_
    refine TL.fld ?_
    refine TL.ld ?_
    refine TL.cF ((impl_within_f _ _ _).k) ?_
    refine TL.vE (Val.assign 1 rfl rfl) ?_
    refine TL.nil ?_
    show TC _ _ _ _ _ _
    refine TC.ret ?_
    exact ⟨.inr rfl, [_], [_], _, rfl, by decide, rfl, by simp [refV, refC, valC], rfl, resV (by simp_all [insOk] <;> rfl)⟩
  have hk5 := hb
  refine TC.region ?_
  refine TL.vE (Val.eql rfl rfl rfl) ?_
  refine TL.vE (Val.assign 1 rfl rfl) ?_
  refine TL.nil ?_
  show TC _ _ _ _ _ _
  refine TC.cond rfl (fun hb => ?_) (fun hb => ?_)
  · have hk5 := hb
    refine TC.seq ?_
    refine TC.region ?_
    refine TL.fld ?_
    refine TL.ld ?_
    refine TL.cF ((impl_within_f _ _ _).k) ?_
    refine TL.vE (Val.assign 1 rfl rfl) ?_
    refine TL.nil ?_
    show TC _ _ _ _ _ _
    refine TC.ret ?_
    exact ⟨.inr rfl, [_], [_], _, rfl, by decide, rfl, by simp [refV, refC, valC], rfl, resV (by simp_all [insOk] <;> rfl)⟩
  have hk5 := hb
  refine TC.seq ?_
  refine TC.seq ?_
  refine TC.region ?_
  refine TL.vE (Val.eql rfl rfl rfl) ?_
  refine TL.vE (Val.assign 1 rfl rfl) ?_
  refine TL.nil ?_
  show TC _ _ _ _ _ _
  refine TC.cond rfl (fun hb => ?_) (fun hb => ?_)
  · have hk13 := hb
    refine TC.skip ?_
    show TC _ _ _ _ _ _
    refine TC.cond rfl (fun hb => ?_) (fun hc => absurd (hc.symm.trans hk13) (by decide))
    refine TC.seq ?_
    refine TC.region ?_
    refine TL.fld ?_
    refine TL.ld ?_
    refine TL.cF ((impl_within_f _ _ _).k) ?_
    refine TL.vE (Val.assign 1 rfl rfl) ?_
    refine TL.nil ?_
    show TC _ _ _ _ _ _
    refine TC.ret ?_
    exact ⟨.inr rfl, [_], [_], _, rfl, by decide, rfl, by simp [refV, refC, valC], rfl, resV (by simp_all [insOk] <;> rfl)⟩
  have hk13 := hb
  refine TC.region ?_
  refine TL.vE (Val.eql rfl rfl rfl) ?_
  refine TL.vE (Val.assign 1 rfl rfl) ?_
  refine TL.nil ?_
  show TC _ _ _ _ _ _
  refine TC.cond rfl (fun hb => ?_) (fun hb => ?_)
  · have hk13 := hb
    refine TC.seq ?_
    refine TC.region ?_
    refine TL.fld ?_
    refine TL.ld ?_
    refine TL.cF ((impl_within_f _ _ _).k) ?_
    refine TL.vE (Val.assign 1 rfl rfl) ?_
    refine TL.nil ?_
    show TC _ _ _ _ _ _
    refine TC.ret ?_
    exact ⟨.inr rfl, [_], [_], _, rfl, by decide, rfl, by simp [refV, refC, valC], rfl, resV (by simp_all [insOk] <;> rfl)⟩
  have hk13 := hb
  refine TC.seq ?_
  refine TC.region ?_
  refine TL.vE (Val.eql rfl rfl rfl) ?_
  refine TL.vE (Val.assign 1 rfl rfl) ?_
  refine TL.nil ?_
  show TC _ _ _ _ _ _
  refine TC.cond rfl (fun hb => ?_) (fun hb => ?_)
  · have hk19 := hb
    refine TC.seq ?_
    refine TC.region ?_
    refine TL.fld ?_
    refine TL.ld ?_
    refine TL.vE (Val.eql rfl rfl rfl) ?_
    refine TL.vE (Val.assign 1 rfl rfl) ?_
    refine TL.nil ?_
    show TC _ _ _ _ _ _
    refine TC.ret ?_
    exact ⟨.inr rfl, [_], [_], _, rfl, by decide, rfl, by simp [refV, refC, valC], rfl, resV (by simp_all [insOk] <;> rfl)⟩
  have hk19 := hb
  refine TC.seq ?_
  refine TC.region ?_
  refine TL.vE (Val.eql rfl rfl rfl) ?_
  refine TL.vE (Val.assign 1 rfl rfl) ?_
  refine TL.nil ?_
  show TC _ _ _ _ _ _
  refine TC.cond rfl (fun hb => ?_) (fun hb => ?_)
  · have hk24 := hb
    refine TC.seq ?_
    refine TC.region ?_
    refine TL.fld ?_
    refine TL.ld ?_
    refine TL.cF ((impl_within_f _ _ _).k) ?_
    refine TL.vE (Val.assign 1 rfl rfl) ?_
    refine TL.nil ?_
    show TC _ _ _ _ _ _
    refine TC.ret ?_
    exact ⟨.inr rfl, [_], [_], _, rfl, by decide, rfl, by simp [refV, refC, valC], rfl, resV (by simp_all [insOk] <;> rfl)⟩
  have hk24 := hb
  refine TC.skip ?_
  show TC _ _ _ _ _ _
  refine TC.seq ?_
  refine TC.region ?_
  refine TL.vE (Val.assign 1 rfl rfl) ?_
  refine TL.nil ?_
  show TC _ _ _ _ _ _
  refine TC.ret ?_
  exact ⟨.inr rfl, [_], [_], _, rfl, by decide, rfl, by simp [refV, refC, valC], rfl, resV (by simp_all [insOk] <;> rfl)⟩

theorem impl_OpName_f (op : Int) : Fun Tryz.prog 56 [I op] (RV (.string (opName op))) := by
  refine Fun.of Tryz.func56 rfl (by simp [Tryz.ntmps56]) fun w g0 => ?_
  simp only [Tryz.ntmps56, List.length_cons, List.length_nil, Nat.reduceAdd, Nat.reduceSub, List.replicate, List.cons_append, List.nil_append]
  refine TC.seq ?_
  refine TC.region ?_
  refine TL.vE (Val.assign 1 rfl rfl) ?_
  refine TL.nil ?_
  show TC _ _ _ _ _ _
  refine TC.seq ?_
  refine TC.seq ?_
  refine TC.region ?_
  refine TL.vE (Val.move 1 rfl rfl) ?_
  refine TL.cF ((impl_within_f _ _ _).k) ?_
  refine TL.vE (Val.not rfl rfl) ?_
  refine TL.nil ?_
  show TC _ _ _ _ _ _
  refine TC.cond rfl (fun hb => ?_) (fun hb => ?_)
  · have hk5 := hb
    refine TC.seq ?_
    refine TC.region ?_
    refine TL.vE (Val.assign 1 rfl rfl) ?_
    refine TL.nil ?_
    show TC _ _ _ _ _ _
    refine TC.ret ?_
    exact ⟨.inr rfl, [_], [_], _, rfl, by decide, rfl, by simp [refV, refC, valC], rfl, resV (by simp_all [opName, specOps])⟩
  have hk5 := hb
  refine TC.skip ?_
  show TC _ _ _ _ _ _
  refine TC.seq ?_
  have hr : 1 ≤ op ∧ op ≤ 8 := by simpa [inR] using hb
  obtain ⟨u, hu⟩ := at_of (xs := opNames) (k := (op - 1).toNat) (by simp [specOps, opNames]; omega)
  have hu3 : opNames[op.toNat - 1]? = some u := by rw [show op.toNat - 1 = (op - 1).toNat by omega]; exact hu
  refine TC.region ?_
  refine TL.opK rfl fun K hK => ?_
  refine OpT.buildP rfl rfl (xs := opNames.map fun s => .const (.string s)) rfl rfl (tvs := opNames.map fun s => .c (.ro (.v (.string s)))) rfl rfl (sz := 1) rfl rfl rfl (by decide) (by decide) ?_
  simp only [nrm, Nat.reduceBEq, Nat.reduceBNe, reduceIte]
  refine hK _ ?_
  clear hK K
  refine TL.vE (Val.move 1 rfl rfl) ?_
  refine TL.vE (Val.sub rfl rfl rfl (by first | omega | (simp only [List.length_map]; omega)) (by first | omega | (simp only [List.length_map]; omega))) ?_
  refine TL.vE (by exact Val.index rfl rfl rfl rfl rfl rfl (by omega) (by simp [specOps, opNames]; omega)) ?_
  refine TL.valE rfl (by exact Val.load rfl rfl rfl (c := .own (.v (.string u))) (by simp [St.cellAt, St.root, rowAt, D.row, elD, cellD, hu3]) rfl) (by simp only [nput, valC]; rfl) ?_
  refine TL.vE (Val.assign 1 rfl rfl) ?_
  refine TL.nil ?_
  show TC _ _ _ _ _ _
  refine TC.ret ?_
  exact ⟨.inr rfl, [_], [_], _, rfl, by decide, rfl, by simp [refV, refC, valC], rfl, resV (by unfold opName; rw [if_pos (by simpa using hb), hu]; rfl)⟩

theorem spec_l01Figure_f (x : Int) (h0 : 0 ≤ x) (h1 : x < 16) : Fun Tryz.prog 64 [I x] (RV (.int .u8 (figure x))) := by
  refine Fun.of Tryz.func64 rfl (by simp [Tryz.ntmps64]) fun w g0 => ?_
  simp only [Tryz.ntmps64, List.length_cons, List.length_nil, Nat.reduceAdd, Nat.reduceSub, List.replicate, List.cons_append, List.nil_append]
  refine TC.seq ?_
  refine TC.region ?_
  refine TL.vE (Val.assign 1 rfl rfl) ?_
  refine TL.nil ?_
  show TC _ _ _ _ _ _
  refine TC.seq ?_
  refine TC.seq ?_
  refine TC.region ?_
  refine TL.vE (Val.move 1 rfl rfl) ?_
  refine TL.vE (Val.lss rfl rfl rfl) ?_
  refine TL.nil ?_
  show TC _ _ _ _ _ _
  refine TC.cond rfl (fun hb => ?_) (fun hb => ?_)
  · have hk4 := hb
    refine TC.seq ?_
    have hb : x < 10 := by simpa using hb
    refine TC.region ?_
    refine TL.vE (Val.move 1 rfl rfl) ?_
    refine TL.vE (Val.addO rfl rfl rfl) ?_
    refine TL.vE (by exact Val.conv rfl rfl rfl rfl rfl (k' := .u8) (b := 48 + x) (wrap_u8 (by omega) (by omega))) ?_
    refine TL.vE (Val.assign 1 rfl rfl) ?_
    refine TL.nil ?_
    show TC _ _ _ _ _ _
    refine TC.ret ?_
    exact ⟨.inr rfl, [_], [_], _, rfl, by decide, rfl, by simp [refV, refC, valC], rfl, resV (by simp_all [figure]; (try omega))⟩
  have hk4 := hb
  refine TC.skip ?_
  show TC _ _ _ _ _ _
  refine TC.seq ?_
  have hb : 10 ≤ x := by simpa using hb
  refine TC.region ?_
  refine TL.vE (Val.move 1 rfl rfl) ?_
  refine TL.vE (Val.addO rfl rfl rfl) ?_
  refine TL.vE (Val.sub rfl rfl rfl (by first | omega | (simp only [List.length_map]; omega)) (by first | omega | (simp only [List.length_map]; omega))) ?_
  refine TL.vE (by exact Val.conv rfl rfl rfl rfl rfl (k' := .u8) (b := 97 + x - 10) (wrap_u8 (by omega) (by omega))) ?_
  refine TL.vE (Val.assign 1 rfl rfl) ?_
  refine TL.nil ?_
  show TC _ _ _ _ _ _
  refine TC.ret ?_
  exact ⟨.inr rfl, [_], [_], _, rfl, by decide, rfl, by simp [refV, refC, valC], rfl, resV (by simp_all [figure]; (try omega))⟩
end Go.Proofs.YtfbjcdhphhfpfaaGreatDoor.T

