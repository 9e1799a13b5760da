/- Marks of scripts: everything that is reached is numbered. PRINTED by gen.py out of spec_script5.py. -/
import Derived.Test.YtfbjcdhphhfpfaaGreatDoorT3p
import Derived.Test.YtfbjcdhphhfpfaaGreatDoorWmp
namespace Go.Proofs.YtfbjcdhphhfpfaaGreatDoor.T
open Go
set_option linter.unusedVariables false
set_option linter.unusedSimpArgs false
set_option maxRecDepth 100000
set_option maxHeartbeats 1000000

/-- Elements numbered one behind the other. -/
def mkFold {α : Type} (f : Int → α → α) (c : α → Int) : Int → List α → List α
  | _, [] => []
  | k, x :: l => f k x :: mkFold f c (k + c x) l
def cntFold {α : Type} (c : α → Int) : List α → Int
  | [] => 0
  | x :: l => c x + cntFold c l
theorem mkFold_len {α : Type} (f : Int → α → α) (c : α → Int) : ∀ (xs : List α) (k : Int), (mkFold f c k xs).length = xs.length
  | [], _ => rfl
  | x :: l, k => by simp [mkFold, mkFold_len f c l]
theorem cntFold_nn {α : Type} {c : α → Int} (h : ∀ x, 0 ≤ c x) : ∀ xs : List α, 0 ≤ cntFold c xs
  | [] => Int.le_refl _
  | x :: l => by have := h x; have := cntFold_nn h l; simp only [cntFold]; omega
theorem cntFold_app {α : Type} (c : α → Int) : ∀ xs ys : List α, cntFold c (xs ++ ys) = cntFold c xs + cntFold c ys
  | [], ys => by simp [cntFold]
  | x :: l, ys => by simp only [List.cons_append, cntFold, cntFold_app c l ys]; omega
theorem cntFold_step {α : Type} {c : α → Int} {xs : List α} {i : Nat} {x : α} (hx : xs[i]? = some x) : cntFold c (xs.take (i + 1)) = cntFold c (xs.take i) + c x := by
  rw [List.take_add_one, hx, cntFold_app]
  simp [cntFold]
theorem cntFold_le {α : Type} {c : α → Int} (h : ∀ x, 0 ≤ c x) (xs : List α) (i : Nat) : cntFold c (xs.take i) ≤ cntFold c xs := by
  have := cntFold_app c (xs.take i) (xs.drop i)
  rw [List.take_append_drop] at this
  have := cntFold_nn h (xs.drop i)
  omega
theorem mkFold_get {α : Type} (f : Int → α → α) (c : α → Int) : ∀ {xs : List α} {i : Nat} {x : α} (k : Int), xs[i]? = some x → (mkFold f c k xs)[i]? = some (f (k + cntFold c (xs.take i)) x)
  | [], i, x, k, h => by simp at h
  | y :: l, 0, x, k, h => by
    simp only [List.getElem?_cons_zero, Option.some.injEq] at h
    subst h
    simp [mkFold, cntFold]
  | y :: l, i + 1, x, k, h => by
    have := mkFold_get f c (k + c y) (xs := l) (i := i) (by simpa using h)
    simp only [mkFold, List.getElem?_cons_succ, List.take_succ_cons, cntFold, this]
    congr 2
    omega
def mkEIns (k : Int) (x : VIns) : VIns := ⟨(k), (k + 1)⟩
def cntEIns (_ : VIns) : Int := 1 + 1
theorem cntEIns_nn (x : VIns) : 0 ≤ cntEIns x := by
  unfold cntEIns
  omega
def mkInsS (k : Int) (xs : List VIns) : List VIns := mkFold mkEIns cntEIns k xs
def cntInsS (xs : List VIns) : Int := cntFold cntEIns xs
theorem cntInsS_nn (xs : List VIns) : 0 ≤ cntInsS xs := cntFold_nn cntEIns_nn xs
theorem mkInsS_len (k : Int) (xs : List VIns) : (mkInsS k xs).length = xs.length := mkFold_len _ _ _ _
abbrev mkEInsS := mkInsS
abbrev cntEInsS := cntInsS
theorem cntEInsS_nn (xs : List VIns) : 0 ≤ cntEInsS xs := cntInsS_nn xs
def mkInsSS (k : Int) (xs : List (List VIns)) : List (List VIns) := mkFold mkEInsS cntEInsS k xs
def cntInsSS (xs : List (List VIns)) : Int := cntFold cntEInsS xs
theorem cntInsSS_nn (xs : List (List VIns)) : 0 ≤ cntInsSS xs := cntFold_nn cntEInsS_nn xs
theorem mkInsSS_len (k : Int) (xs : List (List VIns)) : (mkInsSS k xs).length = xs.length := mkFold_len _ _ _ _
abbrev mkEInsSS := mkInsSS
abbrev cntEInsSS := cntInsSS
theorem cntEInsSS_nn (xs : List (List VIns)) : 0 ≤ cntEInsSS xs := cntInsSS_nn xs
def mkInsSSS (k : Int) (xs : List (List (List VIns))) : List (List (List VIns)) := mkFold mkEInsSS cntEInsSS k xs
def cntInsSSS (xs : List (List (List VIns))) : Int := cntFold cntEInsSS xs
theorem cntInsSSS_nn (xs : List (List (List VIns))) : 0 ≤ cntInsSSS xs := cntFold_nn cntEInsSS_nn xs
theorem mkInsSSS_len (k : Int) (xs : List (List (List VIns))) : (mkInsSSS k xs).length = xs.length := mkFold_len _ _ _ _
def mkEAct (k : Int) (x : VAct) : VAct := ⟨(k), (k + 1), (k + 1 + 1), (k + 1 + 1 + 1), (k + 1 + 1 + 1 + 1), (k + 1 + 1 + 1 + 1 + 1)⟩
def cntEAct (_ : VAct) : Int := 1 + 1 + 1 + 1 + 1 + 1
theorem cntEAct_nn (x : VAct) : 0 ≤ cntEAct x := by
  unfold cntEAct
  omega
def mkActS (k : Int) (xs : List VAct) : List VAct := mkFold mkEAct cntEAct k xs
def cntActS (xs : List VAct) : Int := cntFold cntEAct xs
theorem cntActS_nn (xs : List VAct) : 0 ≤ cntActS xs := cntFold_nn cntEAct_nn xs
theorem mkActS_len (k : Int) (xs : List VAct) : (mkActS k xs).length = xs.length := mkFold_len _ _ _ _
def mkVScript (k : Int) (x : VScript) : VScript := ⟨(mkInsSSS (k) x.All), (mkActS (k + cntInsSSS x.All) x.Acts)⟩
def cntVScript (x : VScript) : Int := cntInsSSS x.All + cntActS x.Acts
theorem cntVScript_nn (x : VScript) : 0 ≤ cntVScript x := by
  have := cntInsSSS_nn x.All
  have := cntActS_nn x.Acts
  unfold cntVScript
  omega
theorem laws_markInsS_f (xs : List VIns) (k : Int) (h1 : 0 ≤ k) (h2 : k + cntInsS xs ≤ 1000000000000000) (hmx : SmInsS xs) : Fun2 Tryz.prog 62 (⟨false, [.sl 2 (xs.map dIns)]⟩) [.one (.c (.ref ⟨1000000, [], 0⟩)), I k] (RP2 [.sl 2 ((mkInsS k xs).map dIns)] (I (k + cntInsS xs))) := by
  refine Fun2.of Tryz.func62 rfl (by simp [Tryz.ntmps62]) fun w g0 => ?_
  simp only [Tryz.ntmps62, List.length_cons, List.length_nil, Nat.reduceAdd, Nat.reduceSub, List.replicate, List.cons_append, List.nil_append, Hand.k, pinK, pinB, if_true, if_false, Bool.false_eq_true, List.map_cons, List.map_nil]
  refine TC.seq ?_
  refine TC.region ?_
  refine TL.vE (Val.assign 1 rfl rfl) ?_
  refine TL.nil ?_
  show TC _ _ _ _ _ _
  refine TC.seq ?_
  refine TC.seq ?_
  refine TC.region ?_
  refine TL.vE (Val.assign 1 rfl rfl) ?_
  refine TL.nil ?_
  show TC _ _ _ _ _ _
  refine TC.block ?_
  refine TC.loop (fun μ st => ∃ i : Nat, (i ≤ xs.length) ∧ μ = xs.length - i ∧ Can st ⟨[.one (.c (.ref ⟨1000000, [], 0⟩)), I (k + cntFold cntEIns (xs.take i)), .one .dead, .one .dead, .one .dead, I i, .one .dead, .one .dead, .one .dead, .one .dead, .one .dead, .one .dead, .one .dead, .one .dead, .one .dead, .one .dead, .one .dead, .one .dead, .one .dead, .one .dead, .one .dead, .one .dead, .one .dead, .one .dead, .one .dead, .one .dead, .one .dead], [(1000000, ⟨false, [.own (.sl 2 ((mix (mkInsS k xs) xs i).map dIns))]⟩)]⟩) (xs.length) ?_ fun μ st hI => ?_
  · refine ⟨0, by simp, by simp, ?_⟩
    exact Can.to (by repeat first | exact LessT.nil | refine LessT.drop ?_ | refine LessT.keep ?_ | refine LessT.eq (by simp [cntFold]) ?_) (.cons rfl (by simp [mix_zero]) .nil)
  · obtain ⟨i, hyp, rfl, hcan⟩ := hI
    refine TC.can hcan ?_
    clear hcan
    refine TC.seq ?_
    refine TC.seq ?_
    refine TC.region ?_
    refine TL.vE (Val.move 1 rfl rfl) ?_
    refine TL.vE (Val.move 1 rfl rfl) ?_
    refine TL.vE (by first | exact Val.len rfl rfl rfl rfl | exact Val.lenS rfl rfl rfl) ?_
    refine TL.vE (Val.lss rfl rfl rfl) ?_
    refine TL.nil ?_
    show TC _ _ _ _ _ _
    refine TC.cond rfl (fun hb => ?_) (fun hb => ?_)
    · have hk9 := hb
      refine TC.skip ?_
      show TC _ _ _ _ _ _
      refine TC.seq ?_
      refine TC.block ?_
      refine TC.seq ?_
      have hi : i < xs.length := by simpa [mix_len (mkInsS_len k xs)] using hb
      have hlen : xs.length ≤ 2097152 := Nat.le_trans (show xs.length ≤ 1048576 from hmx) (by decide)
      obtain ⟨x, hx⟩ := at_of (xs := xs) (k := i) hi
      have hcs := cntFold_step (c := cntEIns) hx
      have hc1 := cntFold_le cntEIns_nn xs (i + 1)
      have hc0 := cntFold_nn cntEIns_nn (xs.take i)
      have hcd : cntFold cntEIns xs = cntInsS xs := rfl
      have hg : ((mix (mkInsS k xs) xs i).map dIns)[i]? = some (dIns x) := by simp [List.getElem?_map, mix_get (mkInsS_len k xs), hx]
      have hs : ((mix (mkInsS k xs) xs i).map dIns).set i (dIns (mkEIns (k + cntFold cntEIns (xs.take i)) x)) = ((mix (mkInsS k xs) xs (i + 1)).map dIns) := by rw [← mix_set (mkInsS_len k xs) (mkFold_get mkEIns cntEIns k hx), List.map_set]
      have hLl : ((mix (mkInsS k xs) xs i).map dIns).length = xs.length := by simp [mix_len (mkInsS_len k xs)]
      generalize ((mix (mkInsS k xs) xs i).map dIns) = L at *
      simp only [dIns, rIns, mkEIns, cntEIns] at hg hs hcs
      generalize hKI : cntFold cntEIns (xs.take i) = m at *
      refine TC.region ?_
      refine TL.vE (Val.move 1 rfl rfl) ?_
      refine TL.vE (Val.move 1 rfl rfl) ?_
      refine TL.vE (Val.move 1 rfl rfl) ?_
      refine TL.vE (by exact Val.index rfl rfl rfl rfl rfl rfl (by omega) (by simp [hLl]; omega)) ?_
      refine TL.fld ?_
      refine TL.opK rfl fun K hK => ?_
      refine OpT.store (z := 1) rfl rfl rfl rfl (by simp [St.store1, St.storeAll, St.cellAt, St.isMem, St.root, St.wrote, St.kill, St.setRoot, TS.kill, TV.kill, C.kill, Rt.kill, hitR, hitP, shapeOf, setRow, setAt, rowAt, D.row, D.reRow, List.isPrefixOf, St.nest, St.kill, St.setRoot, St.root, List.getElem?_set_self', List.set_set, hg]; rfl) rfl (by simp [St.store1, St.storeAll, St.cellAt, St.isMem, St.root, St.wrote, St.kill, St.setRoot, TS.kill, TV.kill, C.kill, Rt.kill, hitR, hitP, shapeOf, setRow, setAt, rowAt, D.row, D.reRow, List.isPrefixOf, St.nest, St.kill, St.setRoot, St.root, List.getElem?_set_self', List.set_set, hg]; rfl) ?_
      simp only [nrm, Nat.reduceBEq, Nat.reduceBNe, reduceIte]
      refine hK _ ?_
      clear hK K
      refine TL.nil ?_
      show TC _ _ _ _ _ _
      refine TC.seq ?_
      refine TC.region ?_
      refine TL.vE (Val.move 1 rfl rfl) ?_
      refine TL.vE (Val.addO rfl rfl rfl) ?_
      refine TL.vE (Val.assign 1 rfl rfl) ?_
      refine TL.nil ?_
      show TC _ _ _ _ _ _
      refine TC.seq ?_
      refine TC.region ?_
      refine TL.vE (Val.move 1 rfl rfl) ?_
      refine TL.vE (Val.move 1 rfl rfl) ?_
      refine TL.vE (Val.move 1 rfl rfl) ?_
      refine TL.vE (by exact Val.index rfl rfl rfl rfl rfl rfl (by omega) (by simp [hLl]; omega)) ?_
      refine TL.fld ?_
      refine TL.opK rfl fun K hK => ?_
      refine OpT.store (z := 1) rfl rfl rfl rfl (by simp [St.store1, St.storeAll, St.cellAt, St.isMem, St.root, St.wrote, St.kill, St.setRoot, TS.kill, TV.kill, C.kill, Rt.kill, hitR, hitP, shapeOf, setRow, setAt, rowAt, D.row, D.reRow, List.isPrefixOf, St.nest, St.kill, St.setRoot, St.root, List.getElem?_set_self', List.set_set, hg]; rfl) rfl (by simp [St.store1, St.storeAll, St.cellAt, St.isMem, St.root, St.wrote, St.kill, St.setRoot, TS.kill, TV.kill, C.kill, Rt.kill, hitR, hitP, shapeOf, setRow, setAt, rowAt, D.row, D.reRow, List.isPrefixOf, St.nest, St.kill, St.setRoot, St.root, List.getElem?_set_self', List.set_set, hg]; rfl) ?_
      simp only [nrm, Nat.reduceBEq, Nat.reduceBNe, reduceIte]
      refine hK _ ?_
      clear hK K
      refine TL.nil ?_
      show TC _ _ _ _ _ _
      refine TC.region ?_
      refine TL.vE (Val.move 1 rfl rfl) ?_
      refine TL.vE (Val.addO rfl rfl rfl) ?_
      refine TL.vE (Val.assign 1 rfl rfl) ?_
      refine TL.nil ?_
      show TC _ _ _ _ _ _
      refine TC.region ?_
      refine TL.vE (Val.move 1 rfl rfl) ?_
      refine TL.vE (Val.addO rfl rfl rfl) ?_
      refine TL.vE (Val.assign 1 rfl rfl) ?_
      refine TL.nil ?_
      first | refine Seq.normal ⟨_, ?_, i + 1, ?_, rfl, ?_⟩ | refine Seq.normal (Q := fun _ _ => True) ⟨_, ?_, i + 1, ?_, rfl, ?_⟩
      · omega
      · omega
      · exact Can.to (by repeat first | exact LessT.nil | refine LessT.drop ?_ | refine LessT.keep ?_ | refine LessT.eq (by first | rfl | (simp; done) | exact congrArg (fun z : Int => (I z : TS)) (by rw [hcs]; omega) | exact congrArg (fun z : Int => (I z : TS)) (by omega)) ?_) (.cons rfl (by simp [hs]) .nil)
    have hk9 := hb
    refine TC.exit ?_
    show TC _ _ _ _ _ _
    refine TC.seq ?_
    have hn : i = xs.length := (by simp [mix_len (mkInsS_len k xs)] at hb; omega)
    subst hn
    rw [mix_all (mkInsS_len k xs) (Nat.le_refl _), List.take_length]
    refine TC.region ?_
    refine TL.vE (Val.move 1 rfl rfl) ?_
    refine TL.vE (Val.assign 1 rfl rfl) ?_
    refine TL.nil ?_
    show TC _ _ _ _ _ _
    refine TC.ret ?_
    exact ⟨.inr rfl, [_], [_], _, [.sl 2 ((mkInsS k xs).map dIns)], rfl, by decide, rfl, by simp [refV, refC, valC, C.kill, hitR], rfl, rfl, by simp, rfl, ⟨rfl, rfl⟩⟩

theorem laws_heldInsS_f (xs : List VIns) (k : Int) (h1 : 0 ≤ k) (h2 : k + cntInsS xs ≤ 1000000000000000) (hmx : SmInsS xs) : Fun Tryz.prog 63 [L 2 ((mkInsS k xs).map dIns), I k] (RV (.int .i64 (k + cntInsS xs))) := by
  refine Fun.of Tryz.func63 rfl (by simp [Tryz.ntmps63]) fun w g0 => ?_
  simp only [Tryz.ntmps63, List.length_cons, List.length_nil, Nat.reduceAdd, Nat.reduceSub, List.replicate, List.cons_append, List.nil_append]
  refine TC.seq ?_
  refine TC.region ?_
  refine TL.vE (Val.assign 1 rfl rfl) ?_
  refine TL.nil ?_
  show TC _ _ _ _ _ _
  refine TC.seq ?_
  refine TC.seq ?_
  refine TC.region ?_
  refine TL.vE (Val.assign 1 rfl rfl) ?_
  refine TL.nil ?_
  show TC _ _ _ _ _ _
  refine TC.block ?_
  refine TC.loop (fun μ st => ∃ i : Nat, (i ≤ xs.length) ∧ μ = xs.length - i ∧ Can st ⟨[L 2 ((mkInsS k xs).map dIns), I (k + cntFold cntEIns (xs.take i)), .one .dead, .one .dead, .one .dead, I i, .one .dead, .one .dead, .one .dead, .one .dead, .one .dead, .one .dead, .one .dead, .one .dead, .one .dead, .one .dead, .one .dead, .one .dead, .one .dead, .one .dead, .one .dead, .one .dead, .one .dead, .one .dead, .one .dead, .one .dead, .one .dead, .one .dead, .one .dead, .one .dead, .one .dead], []⟩) (xs.length) ?_ fun μ st hI => ?_
  · refine ⟨0, by simp, by simp, ?_⟩
    exact Can.to (by repeat first | exact LessT.nil | refine LessT.drop ?_ | refine LessT.keep ?_ | refine LessT.eq (by simp [cntFold]) ?_) .nil
  · obtain ⟨i, hyp, rfl, hcan⟩ := hI
    refine TC.can hcan ?_
    clear hcan
    refine TC.seq ?_
    refine TC.seq ?_
    refine TC.region ?_
    refine TL.vE (Val.move 1 rfl rfl) ?_
    refine TL.vE (Val.move 1 rfl rfl) ?_
    refine TL.vE (by first | exact Val.len rfl rfl rfl rfl | exact Val.lenS rfl rfl rfl) ?_
    refine TL.vE (Val.lss rfl rfl rfl) ?_
    refine TL.nil ?_
    show TC _ _ _ _ _ _
    refine TC.cond rfl (fun hb => ?_) (fun hb => ?_)
    · have hk9 := hb
      refine TC.skip ?_
      show TC _ _ _ _ _ _
      refine TC.seq ?_
      refine TC.block ?_
      refine TC.seq ?_
      refine TC.seq ?_
      have hi : i < xs.length := by simpa [mkInsS_len] using hb
      have hlen : xs.length ≤ 2097152 := Nat.le_trans (show xs.length ≤ 1048576 from hmx) (by decide)
      obtain ⟨x, hx⟩ := at_of (xs := xs) (k := i) hi
      have hcs := cntFold_step (c := cntEIns) hx
      have hc1 := cntFold_le cntEIns_nn xs (i + 1)
      have hc0 := cntFold_nn cntEIns_nn (xs.take i)
      have hcd : cntFold cntEIns xs = cntInsS xs := rfl
      have hg : (mkInsS k xs)[i]? = some (mkEIns (k + cntFold cntEIns (xs.take i)) x) := mkFold_get mkEIns cntEIns k hx
      generalize hKI : cntFold cntEIns (xs.take i) = m at *
      simp only [cntEIns] at hcs
      refine TC.region ?_
      refine TL.vE (Val.move 1 rfl rfl) ?_
      refine TL.vE (Val.move 1 rfl rfl) ?_
      refine TL.vE (by exact Val.indexC (d := dIns (mkEIns (k + m) x)) rfl rfl rfl rfl rfl (by omega) (by simp [hg])) ?_
      refine TL.fld ?_
      refine TL.ld ?_
      refine TL.vE (Val.move 1 rfl rfl) ?_
      refine TL.vE (Val.neq rfl rfl rfl) ?_
      refine TL.nil ?_
      show TC _ _ _ _ _ _
      refine TC.cond rfl (fun hb => ?_) (fun hb => ?_)
      · have hk18 := hb
        refine TC.seq ?_
        (exfalso; first | omega | (simp [mkEIns] at hb; done) | (simp [mkEIns] at hb; omega) | (simp at hb; omega))
      have hk18 := hb
      refine TC.skip ?_
      show TC _ _ _ _ _ _
      refine TC.seq ?_
      refine TC.region ?_
      refine TL.vE (Val.move 1 rfl rfl) ?_
      refine TL.vE (Val.addO rfl rfl rfl) ?_
      refine TL.vE (Val.assign 1 rfl rfl) ?_
      refine TL.nil ?_
      show TC _ _ _ _ _ _
      refine TC.seq ?_
      refine TC.seq ?_
      refine TC.region ?_
      refine TL.vE (Val.move 1 rfl rfl) ?_
      refine TL.vE (Val.move 1 rfl rfl) ?_
      refine TL.vE (by exact Val.indexC (d := dIns (mkEIns (k + m) x)) rfl rfl rfl rfl rfl (by omega) (by simp [hg])) ?_
      refine TL.fld ?_
      refine TL.ld ?_
      refine TL.vE (Val.move 1 rfl rfl) ?_
      refine TL.vE (Val.neq rfl rfl rfl) ?_
      refine TL.nil ?_
      show TC _ _ _ _ _ _
      refine TC.cond rfl (fun hb => ?_) (fun hb => ?_)
      · have hk27 := hb
        refine TC.seq ?_
        (exfalso; first | omega | (simp [mkEIns] at hb; done) | (simp [mkEIns] at hb; omega) | (simp at hb; omega))
      have hk27 := hb
      refine TC.skip ?_
      show TC _ _ _ _ _ _
      refine TC.region ?_
      refine TL.vE (Val.move 1 rfl rfl) ?_
      refine TL.vE (Val.addO rfl rfl rfl) ?_
      refine TL.vE (Val.assign 1 rfl rfl) ?_
      refine TL.nil ?_
      show TC _ _ _ _ _ _
      refine TC.region ?_
      refine TL.vE (Val.move 1 rfl rfl) ?_
      refine TL.vE (Val.addO rfl rfl rfl) ?_
      refine TL.vE (Val.assign 1 rfl rfl) ?_
      refine TL.nil ?_
      first | refine Seq.normal ⟨_, ?_, i + 1, ?_, rfl, ?_⟩ | refine Seq.normal (Q := fun _ _ => True) ⟨_, ?_, i + 1, ?_, rfl, ?_⟩
      · omega
      · omega
      · exact Can.to (by repeat first | exact LessT.nil | refine LessT.drop ?_ | refine LessT.keep ?_ | refine LessT.eq (by first | rfl | (simp; done) | exact congrArg (fun z : Int => (I z : TS)) (by rw [hcs]; omega) | exact congrArg (fun z : Int => (I z : TS)) (by omega)) ?_) .nil
    have hk9 := hb
    refine TC.exit ?_
    show TC _ _ _ _ _ _
    refine TC.seq ?_
    refine TC.region ?_
    refine TL.vE (Val.move 1 rfl rfl) ?_
    refine TL.vE (Val.assign 1 rfl rfl) ?_
    refine TL.nil ?_
    show TC _ _ _ _ _ _
    refine TC.ret ?_
    exact ⟨.inr rfl, [_], [_], _, rfl, by decide, rfl, by simp [refV, refC, valC, C.kill, hitR], rfl, resV (by have hn : i = xs.length := (by simp [mkInsS_len] at hb; omega); subst hn; rw [List.take_length]; rfl)⟩

theorem laws_markInsSS_f (xs : List (List VIns)) (k : Int) (h1 : 0 ≤ k) (h2 : k + cntInsSS xs ≤ 1000000000000000) (hmx : SmInsSS xs) : Fun2 Tryz.prog 40 (⟨false, [.sl 1 (xs.map dInsS)]⟩) [.one (.c (.ref ⟨1000000, [], 0⟩)), I k] (RP2 [.sl 1 ((mkInsSS k xs).map dInsS)] (I (k + cntInsSS xs))) := by
  refine Fun2.of Tryz.func40 rfl (by simp [Tryz.ntmps40]) fun w g0 => ?_
  simp only [Tryz.ntmps40, List.length_cons, List.length_nil, Nat.reduceAdd, Nat.reduceSub, List.replicate, List.cons_append, List.nil_append, Hand.k, pinK, pinB, if_true, if_false, Bool.false_eq_true, List.map_cons, List.map_nil]
  refine TC.seq ?_
  refine TC.region ?_
  refine TL.vE (Val.assign 1 rfl rfl) ?_
  refine TL.nil ?_
  show TC _ _ _ _ _ _
  refine TC.seq ?_
  refine TC.seq ?_
  refine TC.region ?_
  refine TL.vE (Val.assign 1 rfl rfl) ?_
  refine TL.nil ?_
  show TC _ _ _ _ _ _
  refine TC.block ?_
  refine TC.loop (fun μ st => ∃ i : Nat, (i ≤ xs.length) ∧ μ = xs.length - i ∧ Can st ⟨[.one (.c (.ref ⟨1000000, [], 0⟩)), I (k + cntFold cntInsS (xs.take i)), .one .dead, .one .dead, .one .dead, I i, .one .dead, .one .dead, .one .dead, .one .dead, .one .dead, .one .dead, .one .dead, .one .dead, .one .dead, .one .dead, .one .dead, .one .dead, .one .dead], [(1000000, ⟨false, [.own (.sl 1 ((mix (mkInsSS k xs) xs i).map dInsS))]⟩)]⟩) (xs.length) ?_ fun μ st hI => ?_
  · refine ⟨0, by simp, by simp, ?_⟩
    exact Can.to (by repeat first | exact LessT.nil | refine LessT.drop ?_ | refine LessT.keep ?_ | refine LessT.eq (by simp [cntFold]) ?_) (.cons rfl (by simp [mix_zero]) .nil)
  · obtain ⟨i, hyp, rfl, hcan⟩ := hI
    refine TC.can hcan ?_
    clear hcan
    refine TC.seq ?_
    refine TC.seq ?_
    refine TC.region ?_
    refine TL.vE (Val.move 1 rfl rfl) ?_
    refine TL.vE (Val.move 1 rfl rfl) ?_
    refine TL.vE (by first | exact Val.len rfl rfl rfl rfl | exact Val.lenS rfl rfl rfl) ?_
    refine TL.vE (Val.lss rfl rfl rfl) ?_
    refine TL.nil ?_
    show TC _ _ _ _ _ _
    refine TC.cond rfl (fun hb => ?_) (fun hb => ?_)
    · have hk9 := hb
      refine TC.skip ?_
      show TC _ _ _ _ _ _
      refine TC.seq ?_
      refine TC.block ?_
      have hi : i < xs.length := by simpa [mix_len (mkInsSS_len k xs)] using hb
      have hlen : xs.length ≤ 2097152 := Nat.le_trans (show xs.length ≤ 1048576 from hmx.1) (by decide)
      obtain ⟨x, hx⟩ := at_of (xs := xs) (k := i) hi
      have hcs := cntFold_step (c := cntInsS) hx
      have hc1 := cntFold_le cntInsS_nn xs (i + 1)
      have hc0 := cntFold_nn cntInsS_nn (xs.take i)
      have hcd : cntFold cntInsS xs = cntInsSS xs := rfl
      have hsx : SmInsS x := hmx.2 x (List.mem_of_getElem? hx)
      have hn0 := cntInsS_nn x
      have hg : ((mix (mkInsSS k xs) xs i).map dInsS)[i]? = some (dInsS x) := by simp [List.getElem?_map, mix_get (mkInsSS_len k xs), hx]
      have hs : ((mix (mkInsSS k xs) xs i).map dInsS).set i (dInsS (mkInsS (k + cntFold cntInsS (xs.take i)) x)) = ((mix (mkInsSS k xs) xs (i + 1)).map dInsS) := by rw [← mix_set (mkInsSS_len k xs) (mkFold_get mkInsS cntInsS k hx), List.map_set]
      have hLl : ((mix (mkInsSS k xs) xs i).map dInsS).length = xs.length := by simp [mix_len (mkInsSS_len k xs)]
      generalize ((mix (mkInsSS k xs) xs i).map dInsS) = L at *
      simp only [dInsS] at hg hs
      generalize hKI : cntFold cntInsS (xs.take i) = m at *
      refine TC.region ?_
      refine TL.vE (Val.move 1 rfl rfl) ?_
      refine TL.vE (Val.move 1 rfl rfl) ?_
      refine TL.vE (by exact Val.index rfl rfl rfl rfl rfl rfl (by omega) (by simp [hLl]; omega)) ?_
      refine TL.valE rfl (by exact Val.load rfl rfl rfl (c := .own (.sl 2 (x.map dIns))) (by simp [St.store1, St.storeAll, St.cellAt, St.isMem, St.root, St.wrote, St.kill, St.setRoot, TS.kill, TV.kill, C.kill, Rt.kill, hitR, hitP, shapeOf, setRow, setAt, rowAt, D.row, D.reRow, List.isPrefixOf, St.nest, St.kill, St.setRoot, St.root, List.getElem?_set_self', List.set_set, hg]; done) rfl) (by simp only [nput, valC]; rfl) ?_
      refine TL.vE (Val.move 1 rfl rfl) ?_
      refine TL.callN (k1 := 1000000) (q0 := 0) (i0 := i) (j := 0) (yes_none rfl) rfl rfl rfl rfl rfl rfl (laws_markInsS_f x ((k + m)) (by omega) (by omega) hsx) rfl rfl (by simp [St.store1, St.storeAll, St.cellAt, St.isMem, St.root, St.wrote, St.kill, St.setRoot, TS.kill, TV.kill, C.kill, Rt.kill, hitR, hitP, shapeOf, setRow, setAt, rowAt, D.row, D.reRow, List.isPrefixOf, St.nest, St.kill, St.setRoot, St.root, List.getElem?_set_self', List.set_set, hg]; rfl) (by rfl) (by repeat first | exact .nil | refine GiveNs.cons (.ro _) ?_ | refine GiveNs.cons .it ?_) rfl (by simp [St.store1, St.storeAll, St.cellAt, St.isMem, St.root, St.wrote, St.kill, St.setRoot, TS.kill, TV.kill, C.kill, Rt.kill, hitR, hitP, shapeOf, setRow, setAt, rowAt, D.row, D.reRow, List.isPrefixOf, St.nest, St.kill, St.setRoot, St.root, List.getElem?_set_self', List.set_set, hg]; rfl) (by simp only [nput]; rfl) ?_
      refine TL.vE (Val.assign 1 rfl rfl) ?_
      refine TL.nil ?_
      show TC _ _ _ _ _ _
      refine TC.region ?_
      refine TL.vE (Val.move 1 rfl rfl) ?_
      refine TL.vE (Val.addO rfl rfl rfl) ?_
      refine TL.vE (Val.assign 1 rfl rfl) ?_
      refine TL.nil ?_
      first | refine Seq.normal ⟨_, ?_, i + 1, ?_, rfl, ?_⟩ | refine Seq.normal (Q := fun _ _ => True) ⟨_, ?_, i + 1, ?_, rfl, ?_⟩
      · omega
      · omega
      · exact Can.to (by repeat first | exact LessT.nil | refine LessT.drop ?_ | refine LessT.keep ?_ | refine LessT.eq (by first | rfl | (simp; done) | exact congrArg (fun z : Int => (I z : TS)) (by rw [hcs]; omega) | exact congrArg (fun z : Int => (I z : TS)) (by omega)) ?_) (.cons rfl (by simp [hs]) .nil)
    have hk9 := hb
    refine TC.exit ?_
    show TC _ _ _ _ _ _
    refine TC.seq ?_
    have hn : i = xs.length := (by simp [mix_len (mkInsSS_len k xs)] at hb; omega)
    subst hn
    rw [mix_all (mkInsSS_len k xs) (Nat.le_refl _), List.take_length]
    refine TC.region ?_
    refine TL.vE (Val.move 1 rfl rfl) ?_
    refine TL.vE (Val.assign 1 rfl rfl) ?_
    refine TL.nil ?_
    show TC _ _ _ _ _ _
    refine TC.ret ?_
    exact ⟨.inr rfl, [_], [_], _, [.sl 1 ((mkInsSS k xs).map dInsS)], rfl, by decide, rfl, by simp [refV, refC, valC, C.kill, hitR], rfl, rfl, by simp, rfl, ⟨rfl, rfl⟩⟩

theorem laws_heldInsSS_f (xs : List (List VIns)) (k : Int) (h1 : 0 ≤ k) (h2 : k + cntInsSS xs ≤ 1000000000000000) (hmx : SmInsSS xs) : Fun Tryz.prog 41 [L 1 ((mkInsSS k xs).map dInsS), I k] (RV (.int .i64 (k + cntInsSS xs))) := by
  refine Fun.of Tryz.func41 rfl (by simp [Tryz.ntmps41]) fun w g0 => ?_
  simp only [Tryz.ntmps41, List.length_cons, List.length_nil, Nat.reduceAdd, Nat.reduceSub, List.replicate, List.cons_append, List.nil_append]
  refine TC.seq ?_
  refine TC.region ?_
  refine TL.vE (Val.assign 1 rfl rfl) ?_
  refine TL.nil ?_
  show TC _ _ _ _ _ _
  refine TC.seq ?_
  refine TC.seq ?_
  refine TC.region ?_
  refine TL.vE (Val.assign 1 rfl rfl) ?_
  refine TL.nil ?_
  show TC _ _ _ _ _ _
  refine TC.block ?_
  refine TC.loop (fun μ st => ∃ i : Nat, (i ≤ xs.length) ∧ μ = xs.length - i ∧ Can st ⟨[L 1 ((mkInsSS k xs).map dInsS), I (k + cntFold cntInsS (xs.take i)), .one .dead, .one .dead, .one .dead, I i, .one .dead, .one .dead, .one .dead, .one .dead, .one .dead, .one .dead, .one .dead, .one .dead, .one .dead, .one .dead, .one .dead, .one .dead, .one .dead, .one .dead, .one .dead], []⟩) (xs.length) ?_ fun μ st hI => ?_
  · refine ⟨0, by simp, by simp, ?_⟩
    exact Can.to (by repeat first | exact LessT.nil | refine LessT.drop ?_ | refine LessT.keep ?_ | refine LessT.eq (by simp [cntFold]) ?_) .nil
  · obtain ⟨i, hyp, rfl, hcan⟩ := hI
    refine TC.can hcan ?_
    clear hcan
    refine TC.seq ?_
    refine TC.seq ?_
    refine TC.region ?_
    refine TL.vE (Val.move 1 rfl rfl) ?_
    refine TL.vE (Val.move 1 rfl rfl) ?_
    refine TL.vE (by first | exact Val.len rfl rfl rfl rfl | exact Val.lenS rfl rfl rfl) ?_
    refine TL.vE (Val.lss rfl rfl rfl) ?_
    refine TL.nil ?_
    show TC _ _ _ _ _ _
    refine TC.cond rfl (fun hb => ?_) (fun hb => ?_)
    · have hk9 := hb
      refine TC.skip ?_
      show TC _ _ _ _ _ _
      refine TC.seq ?_
      refine TC.block ?_
      refine TC.seq ?_
      have hi : i < xs.length := by simpa [mkInsSS_len] using hb
      have hlen : xs.length ≤ 2097152 := Nat.le_trans (show xs.length ≤ 1048576 from hmx.1) (by decide)
      obtain ⟨x, hx⟩ := at_of (xs := xs) (k := i) hi
      have hcs := cntFold_step (c := cntInsS) hx
      have hc1 := cntFold_le cntInsS_nn xs (i + 1)
      have hc0 := cntFold_nn cntInsS_nn (xs.take i)
      have hcd : cntFold cntInsS xs = cntInsSS xs := rfl
      have hg : (mkInsSS k xs)[i]? = some (mkInsS (k + cntFold cntInsS (xs.take i)) x) := mkFold_get mkInsS cntInsS k hx
      have hsx : SmInsS x := hmx.2 x (List.mem_of_getElem? hx)
      have hn0 := cntInsS_nn x
      generalize hKI : cntFold cntInsS (xs.take i) = m at *
      skip
      refine TC.region ?_
      refine TL.vE (Val.move 1 rfl rfl) ?_
      refine TL.vE (Val.move 1 rfl rfl) ?_
      refine TL.vE (by exact Val.indexC (d := dInsS (mkInsS (k + m) x)) rfl rfl rfl rfl rfl (by omega) (by simp [hg])) ?_
      refine TL.ld ?_
      refine TL.vE (Val.move 1 rfl rfl) ?_
      refine TL.callF (yes_none rfl) rfl rfl rfl rfl rfl rfl ((laws_heldInsS_f x ((k + m)) (by omega) (by omega) hsx).k) (by repeat first | exact .nil | refine Snaps.cons (.ro _) ?_ | refine Snaps.cons (.aggRo rfl) ?_ | refine Snaps.cons (.cptr _) ?_ | refine Snaps.cons (.fn _) ?_ | refine Snaps.cons (.ownRef rfl (by first | assumption | exact w_InsS _ | exact w_InsSS _ | exact w_InsSSS _ | exact w_ActS _)) ?_ | refine Snaps.cons (.aggR (by repeat first | exact .nil | refine SnapCs.cons (.ro _) ?_ | refine SnapCs.cons (.ref rfl (by first | assumption | exact w_InsS _ | exact w_InsSS _ | exact w_InsSSS _ | exact w_ActS _)) ?_)) ?_) rfl (by simp only [nput]; rfl) ?_
      refine TL.vE (Val.assign 1 rfl rfl) ?_
      refine TL.nil ?_
      show TC _ _ _ _ _ _
      refine TC.seq ?_
      refine TC.region ?_
      refine TL.vE (Val.move 1 rfl rfl) ?_
      refine TL.vE (Val.lss rfl rfl rfl) ?_
      refine TL.nil ?_
      show TC _ _ _ _ _ _
      refine TC.cond rfl (fun hb => ?_) (fun hb => ?_)
      · have hk19 := hb
        refine TC.seq ?_
        (exfalso; first | omega | (simp [mkInsS] at hb; done) | (simp [mkInsS] at hb; omega) | (simp at hb; omega))
      have hk19 := hb
      refine TC.skip ?_
      show TC _ _ _ _ _ _
      refine TC.region ?_
      refine TL.vE (Val.move 1 rfl rfl) ?_
      refine TL.vE (Val.addO rfl rfl rfl) ?_
      refine TL.vE (Val.assign 1 rfl rfl) ?_
      refine TL.nil ?_
      first | refine Seq.normal ⟨_, ?_, i + 1, ?_, rfl, ?_⟩ | refine Seq.normal (Q := fun _ _ => True) ⟨_, ?_, i + 1, ?_, rfl, ?_⟩
      · omega
      · omega
      · exact Can.to (by repeat first | exact LessT.nil | refine LessT.drop ?_ | refine LessT.keep ?_ | refine LessT.eq (by first | rfl | (simp; done) | exact congrArg (fun z : Int => (I z : TS)) (by rw [hcs]; omega) | exact congrArg (fun z : Int => (I z : TS)) (by omega)) ?_) .nil
    have hk9 := hb
    refine TC.exit ?_
    show TC _ _ _ _ _ _
    refine TC.seq ?_
    refine TC.region ?_
    refine TL.vE (Val.move 1 rfl rfl) ?_
    refine TL.vE (Val.assign 1 rfl rfl) ?_
    refine TL.nil ?_
    show TC _ _ _ _ _ _
    refine TC.ret ?_
    exact ⟨.inr rfl, [_], [_], _, rfl, by decide, rfl, by simp [refV, refC, valC, C.kill, hitR], rfl, resV (by have hn : i = xs.length := (by simp [mkInsSS_len] at hb; omega); subst hn; rw [List.take_length]; rfl)⟩

theorem laws_markInsSSS_f (xs : List (List (List VIns))) (k : Int) (h1 : 0 ≤ k) (h2 : k + cntInsSSS xs ≤ 1000000000000000) (hmx : SmInsSSS xs) : Fun2 Tryz.prog 20 (⟨false, [.sl 1 (xs.map dInsSS)]⟩) [.one (.c (.ref ⟨1000000, [], 0⟩)), I k] (RP2 [.sl 1 ((mkInsSSS k xs).map dInsSS)] (I (k + cntInsSSS xs))) := by
  refine Fun2.of Tryz.func20 rfl (by simp [Tryz.ntmps20]) fun w g0 => ?_
  simp only [Tryz.ntmps20, List.length_cons, List.length_nil, Nat.reduceAdd, Nat.reduceSub, List.replicate, List.cons_append, List.nil_append, Hand.k, pinK, pinB, if_true, if_false, Bool.false_eq_true, List.map_cons, List.map_nil]
  refine TC.seq ?_
  refine TC.region ?_
  refine TL.vE (Val.assign 1 rfl rfl) ?_
  refine TL.nil ?_
  show TC _ _ _ _ _ _
  refine TC.seq ?_
  refine TC.seq ?_
  refine TC.region ?_
  refine TL.vE (Val.assign 1 rfl rfl) ?_
  refine TL.nil ?_
  show TC _ _ _ _ _ _
  refine TC.block ?_
  refine TC.loop (fun μ st => ∃ i : Nat, (i ≤ xs.length) ∧ μ = xs.length - i ∧ Can st ⟨[.one (.c (.ref ⟨1000000, [], 0⟩)), I (k + cntFold cntInsSS (xs.take i)), .one .dead, .one .dead, .one .dead, I i, .one .dead, .one .dead, .one .dead, .one .dead, .one .dead, .one .dead, .one .dead, .one .dead, .one .dead, .one .dead, .one .dead, .one .dead, .one .dead], [(1000000, ⟨false, [.own (.sl 1 ((mix (mkInsSSS k xs) xs i).map dInsSS))]⟩)]⟩) (xs.length) ?_ fun μ st hI => ?_
  · refine ⟨0, by simp, by simp, ?_⟩
    exact Can.to (by repeat first | exact LessT.nil | refine LessT.drop ?_ | refine LessT.keep ?_ | refine LessT.eq (by simp [cntFold]) ?_) (.cons rfl (by simp [mix_zero]) .nil)
  · obtain ⟨i, hyp, rfl, hcan⟩ := hI
    refine TC.can hcan ?_
    clear hcan
    refine TC.seq ?_
    refine TC.seq ?_
    refine TC.region ?_
    refine TL.vE (Val.move 1 rfl rfl) ?_
    refine TL.vE (Val.move 1 rfl rfl) ?_
    refine TL.vE (by first | exact Val.len rfl rfl rfl rfl | exact Val.lenS rfl rfl rfl) ?_
    refine TL.vE (Val.lss rfl rfl rfl) ?_
    refine TL.nil ?_
    show TC _ _ _ _ _ _
    refine TC.cond rfl (fun hb => ?_) (fun hb => ?_)
    · have hk9 := hb
      refine TC.skip ?_
      show TC _ _ _ _ _ _
      refine TC.seq ?_
      refine TC.block ?_
      have hi : i < xs.length := by simpa [mix_len (mkInsSSS_len k xs)] using hb
      have hlen : xs.length ≤ 2097152 := Nat.le_trans (show xs.length ≤ 1048576 from hmx.1) (by decide)
      obtain ⟨x, hx⟩ := at_of (xs := xs) (k := i) hi
      have hcs := cntFold_step (c := cntInsSS) hx
      have hc1 := cntFold_le cntInsSS_nn xs (i + 1)
      have hc0 := cntFold_nn cntInsSS_nn (xs.take i)
      have hcd : cntFold cntInsSS xs = cntInsSSS xs := rfl
      have hsx : SmInsSS x := hmx.2 x (List.mem_of_getElem? hx)
      have hn0 := cntInsSS_nn x
      have hg : ((mix (mkInsSSS k xs) xs i).map dInsSS)[i]? = some (dInsSS x) := by simp [List.getElem?_map, mix_get (mkInsSSS_len k xs), hx]
      have hs : ((mix (mkInsSSS k xs) xs i).map dInsSS).set i (dInsSS (mkInsSS (k + cntFold cntInsSS (xs.take i)) x)) = ((mix (mkInsSSS k xs) xs (i + 1)).map dInsSS) := by rw [← mix_set (mkInsSSS_len k xs) (mkFold_get mkInsSS cntInsSS k hx), List.map_set]
      have hLl : ((mix (mkInsSSS k xs) xs i).map dInsSS).length = xs.length := by simp [mix_len (mkInsSSS_len k xs)]
      generalize ((mix (mkInsSSS k xs) xs i).map dInsSS) = L at *
      simp only [dInsSS] at hg hs
      generalize hKI : cntFold cntInsSS (xs.take i) = m at *
      refine TC.region ?_
      refine TL.vE (Val.move 1 rfl rfl) ?_
      refine TL.vE (Val.move 1 rfl rfl) ?_
      refine TL.vE (by exact Val.index rfl rfl rfl rfl rfl rfl (by omega) (by simp [hLl]; omega)) ?_
      refine TL.valE rfl (by exact Val.load rfl rfl rfl (c := .own (.sl 1 (x.map dInsS))) (by simp [St.store1, St.storeAll, St.cellAt, St.isMem, St.root, St.wrote, St.kill, St.setRoot, TS.kill, TV.kill, C.kill, Rt.kill, hitR, hitP, shapeOf, setRow, setAt, rowAt, D.row, D.reRow, List.isPrefixOf, St.nest, St.kill, St.setRoot, St.root, List.getElem?_set_self', List.set_set, hg]; done) rfl) (by simp only [nput, valC]; rfl) ?_
      refine TL.vE (Val.move 1 rfl rfl) ?_
      refine TL.callN (k1 := 1000000) (q0 := 0) (i0 := i) (j := 0) (yes_none rfl) rfl rfl rfl rfl rfl rfl (laws_markInsSS_f x ((k + m)) (by omega) (by omega) hsx) rfl rfl (by simp [St.store1, St.storeAll, St.cellAt, St.isMem, St.root, St.wrote, St.kill, St.setRoot, TS.kill, TV.kill, C.kill, Rt.kill, hitR, hitP, shapeOf, setRow, setAt, rowAt, D.row, D.reRow, List.isPrefixOf, St.nest, St.kill, St.setRoot, St.root, List.getElem?_set_self', List.set_set, hg]; rfl) (by rfl) (by repeat first | exact .nil | refine GiveNs.cons (.ro _) ?_ | refine GiveNs.cons .it ?_) rfl (by simp [St.store1, St.storeAll, St.cellAt, St.isMem, St.root, St.wrote, St.kill, St.setRoot, TS.kill, TV.kill, C.kill, Rt.kill, hitR, hitP, shapeOf, setRow, setAt, rowAt, D.row, D.reRow, List.isPrefixOf, St.nest, St.kill, St.setRoot, St.root, List.getElem?_set_self', List.set_set, hg]; rfl) (by simp only [nput]; rfl) ?_
      refine TL.vE (Val.assign 1 rfl rfl) ?_
      refine TL.nil ?_
      show TC _ _ _ _ _ _
      refine TC.region ?_
      refine TL.vE (Val.move 1 rfl rfl) ?_
      refine TL.vE (Val.addO rfl rfl rfl) ?_
      refine TL.vE (Val.assign 1 rfl rfl) ?_
      refine TL.nil ?_
      first | refine Seq.normal ⟨_, ?_, i + 1, ?_, rfl, ?_⟩ | refine Seq.normal (Q := fun _ _ => True) ⟨_, ?_, i + 1, ?_, rfl, ?_⟩
      · omega
      · omega
      · exact Can.to (by repeat first | exact LessT.nil | refine LessT.drop ?_ | refine LessT.keep ?_ | refine LessT.eq (by first | rfl | (simp; done) | exact congrArg (fun z : Int => (I z : TS)) (by rw [hcs]; omega) | exact congrArg (fun z : Int => (I z : TS)) (by omega)) ?_) (.cons rfl (by simp [hs]) .nil)
    have hk9 := hb
    refine TC.exit ?_
    show TC _ _ _ _ _ _
    refine TC.seq ?_
    have hn : i = xs.length := (by simp [mix_len (mkInsSSS_len k xs)] at hb; omega)
    subst hn
    rw [mix_all (mkInsSSS_len k xs) (Nat.le_refl _), List.take_length]
    refine TC.region ?_
    refine TL.vE (Val.move 1 rfl rfl) ?_
    refine TL.vE (Val.assign 1 rfl rfl) ?_
    refine TL.nil ?_
    show TC _ _ _ _ _ _
    refine TC.ret ?_
    exact ⟨.inr rfl, [_], [_], _, [.sl 1 ((mkInsSSS k xs).map dInsSS)], rfl, by decide, rfl, by simp [refV, refC, valC, C.kill, hitR], rfl, rfl, by simp, rfl, ⟨rfl, rfl⟩⟩

theorem laws_heldInsSSS_f (xs : List (List (List VIns))) (k : Int) (h1 : 0 ≤ k) (h2 : k + cntInsSSS xs ≤ 1000000000000000) (hmx : SmInsSSS xs) : Fun Tryz.prog 22 [L 1 ((mkInsSSS k xs).map dInsSS), I k] (RV (.int .i64 (k + cntInsSSS xs))) := by
  refine Fun.of Tryz.func22 rfl (by simp [Tryz.ntmps22]) fun w g0 => ?_
  simp only [Tryz.ntmps22, List.length_cons, List.length_nil, Nat.reduceAdd, Nat.reduceSub, List.replicate, List.cons_append, List.nil_append]
  refine TC.seq ?_
  refine TC.region ?_
  refine TL.vE (Val.assign 1 rfl rfl) ?_
  refine TL.nil ?_
  show TC _ _ _ _ _ _
  refine TC.seq ?_
  refine TC.seq ?_
  refine TC.region ?_
  refine TL.vE (Val.assign 1 rfl rfl) ?_
  refine TL.nil ?_
  show TC _ _ _ _ _ _
  refine TC.block ?_
  refine TC.loop (fun μ st => ∃ i : Nat, (i ≤ xs.length) ∧ μ = xs.length - i ∧ Can st ⟨[L 1 ((mkInsSSS k xs).map dInsSS), I (k + cntFold cntInsSS (xs.take i)), .one .dead, .one .dead, .one .dead, I i, .one .dead, .one .dead, .one .dead, .one .dead, .one .dead, .one .dead, .one .dead, .one .dead, .one .dead, .one .dead, .one .dead, .one .dead, .one .dead, .one .dead, .one .dead], []⟩) (xs.length) ?_ fun μ st hI => ?_
  · refine ⟨0, by simp, by simp, ?_⟩
    exact Can.to (by repeat first | exact LessT.nil | refine LessT.drop ?_ | refine LessT.keep ?_ | refine LessT.eq (by simp [cntFold]) ?_) .nil
  · obtain ⟨i, hyp, rfl, hcan⟩ := hI
    refine TC.can hcan ?_
    clear hcan
    refine TC.seq ?_
    refine TC.seq ?_
    refine TC.region ?_
    refine TL.vE (Val.move 1 rfl rfl) ?_
    refine TL.vE (Val.move 1 rfl rfl) ?_
    refine TL.vE (by first | exact Val.len rfl rfl rfl rfl | exact Val.lenS rfl rfl rfl) ?_
    refine TL.vE (Val.lss rfl rfl rfl) ?_
    refine TL.nil ?_
    show TC _ _ _ _ _ _
    refine TC.cond rfl (fun hb => ?_) (fun hb => ?_)
    · have hk9 := hb
      refine TC.skip ?_
      show TC _ _ _ _ _ _
      refine TC.seq ?_
      refine TC.block ?_
      refine TC.seq ?_
      have hi : i < xs.length := by simpa [mkInsSSS_len] using hb
      have hlen : xs.length ≤ 2097152 := Nat.le_trans (show xs.length ≤ 1048576 from hmx.1) (by decide)
      obtain ⟨x, hx⟩ := at_of (xs := xs) (k := i) hi
      have hcs := cntFold_step (c := cntInsSS) hx
      have hc1 := cntFold_le cntInsSS_nn xs (i + 1)
      have hc0 := cntFold_nn cntInsSS_nn (xs.take i)
      have hcd : cntFold cntInsSS xs = cntInsSSS xs := rfl
      have hg : (mkInsSSS k xs)[i]? = some (mkInsSS (k + cntFold cntInsSS (xs.take i)) x) := mkFold_get mkInsSS cntInsSS k hx
      have hsx : SmInsSS x := hmx.2 x (List.mem_of_getElem? hx)
      have hn0 := cntInsSS_nn x
      generalize hKI : cntFold cntInsSS (xs.take i) = m at *
      skip
      refine TC.region ?_
      refine TL.vE (Val.move 1 rfl rfl) ?_
      refine TL.vE (Val.move 1 rfl rfl) ?_
      refine TL.vE (by exact Val.indexC (d := dInsSS (mkInsSS (k + m) x)) rfl rfl rfl rfl rfl (by omega) (by simp [hg])) ?_
      refine TL.ld ?_
      refine TL.vE (Val.move 1 rfl rfl) ?_
      refine TL.callF (yes_none rfl) rfl rfl rfl rfl rfl rfl ((laws_heldInsSS_f x ((k + m)) (by omega) (by omega) hsx).k) (by repeat first | exact .nil | refine Snaps.cons (.ro _) ?_ | refine Snaps.cons (.aggRo rfl) ?_ | refine Snaps.cons (.cptr _) ?_ | refine Snaps.cons (.fn _) ?_ | refine Snaps.cons (.ownRef rfl (by first | assumption | exact w_InsS _ | exact w_InsSS _ | exact w_InsSSS _ | exact w_ActS _)) ?_ | refine Snaps.cons (.aggR (by repeat first | exact .nil | refine SnapCs.cons (.ro _) ?_ | refine SnapCs.cons (.ref rfl (by first | assumption | exact w_InsS _ | exact w_InsSS _ | exact w_InsSSS _ | exact w_ActS _)) ?_)) ?_) rfl (by simp only [nput]; rfl) ?_
      refine TL.vE (Val.assign 1 rfl rfl) ?_
      refine TL.nil ?_
      show TC _ _ _ _ _ _
      refine TC.seq ?_
      refine TC.region ?_
      refine TL.vE (Val.move 1 rfl rfl) ?_
      refine TL.vE (Val.lss rfl rfl rfl) ?_
      refine TL.nil ?_
      show TC _ _ _ _ _ _
      refine TC.cond rfl (fun hb => ?_) (fun hb => ?_)
      · have hk19 := hb
        refine TC.seq ?_
        (exfalso; first | omega | (simp [mkInsSS] at hb; done) | (simp [mkInsSS] at hb; omega) | (simp at hb; omega))
      have hk19 := hb
      refine TC.skip ?_
      show TC _ _ _ _ _ _
      refine TC.region ?_
      refine TL.vE (Val.move 1 rfl rfl) ?_
      refine TL.vE (Val.addO rfl rfl rfl) ?_
      refine TL.vE (Val.assign 1 rfl rfl) ?_
      refine TL.nil ?_
      first | refine Seq.normal ⟨_, ?_, i + 1, ?_, rfl, ?_⟩ | refine Seq.normal (Q := fun _ _ => True) ⟨_, ?_, i + 1, ?_, rfl, ?_⟩
      · omega
      · omega
      · exact Can.to (by repeat first | exact LessT.nil | refine LessT.drop ?_ | refine LessT.keep ?_ | refine LessT.eq (by first | rfl | (simp; done) | exact congrArg (fun z : Int => (I z : TS)) (by rw [hcs]; omega) | exact congrArg (fun z : Int => (I z : TS)) (by omega)) ?_) .nil
    have hk9 := hb
    refine TC.exit ?_
    show TC _ _ _ _ _ _
    refine TC.seq ?_
    refine TC.region ?_
    refine TL.vE (Val.move 1 rfl rfl) ?_
    refine TL.vE (Val.assign 1 rfl rfl) ?_
    refine TL.nil ?_
    show TC _ _ _ _ _ _
    refine TC.ret ?_
    exact ⟨.inr rfl, [_], [_], _, rfl, by decide, rfl, by simp [refV, refC, valC, C.kill, hitR], rfl, resV (by have hn : i = xs.length := (by simp [mkInsSSS_len] at hb; omega); subst hn; rw [List.take_length]; rfl)⟩

theorem laws_markActS_f (xs : List VAct) (k : Int) (h1 : 0 ≤ k) (h2 : k + cntActS xs ≤ 1000000000000000) (hmx : SmActS xs) : Fun2 Tryz.prog 21 (⟨false, [.sl 6 (xs.map dAct)]⟩) [.one (.c (.ref ⟨1000000, [], 0⟩)), I k] (RP2 [.sl 6 ((mkActS k xs).map dAct)] (I (k + cntActS xs))) := by
  refine Fun2.of Tryz.func21 rfl (by simp [Tryz.ntmps21]) fun w g0 => ?_
  simp only [Tryz.ntmps21, List.length_cons, List.length_nil, Nat.reduceAdd, Nat.reduceSub, List.replicate, List.cons_append, List.nil_append, Hand.k, pinK, pinB, if_true, if_false, Bool.false_eq_true, List.map_cons, List.map_nil]
  refine TC.seq ?_
  refine TC.region ?_
  refine TL.vE (Val.assign 1 rfl rfl) ?_
  refine TL.nil ?_
  show TC _ _ _ _ _ _
  refine TC.seq ?_
  refine TC.seq ?_
  refine TC.region ?_
  refine TL.vE (Val.assign 1 rfl rfl) ?_
  refine TL.nil ?_
  show TC _ _ _ _ _ _
  refine TC.block ?_
  refine TC.loop (fun μ st => ∃ i : Nat, (i ≤ xs.length) ∧ μ = xs.length - i ∧ Can st ⟨[.one (.c (.ref ⟨1000000, [], 0⟩)), I (k + cntFold cntEAct (xs.take i)), .one .dead, .one .dead, .one .dead, I i, .one .dead, .one .dead, .one .dead, .one .dead, .one .dead, .one .dead, .one .dead, .one .dead, .one .dead, .one .dead, .one .dead, .one .dead, .one .dead, .one .dead, .one .dead, .one .dead, .one .dead, .one .dead, .one .dead, .one .dead, .one .dead, .one .dead, .one .dead, .one .dead, .one .dead, .one .dead, .one .dead, .one .dead, .one .dead, .one .dead, .one .dead, .one .dead, .one .dead, .one .dead, .one .dead, .one .dead, .one .dead, .one .dead, .one .dead, .one .dead, .one .dead, .one .dead, .one .dead, .one .dead, .one .dead, .one .dead, .one .dead, .one .dead, .one .dead], [(1000000, ⟨false, [.own (.sl 6 ((mix (mkActS k xs) xs i).map dAct))]⟩)]⟩) (xs.length) ?_ fun μ st hI => ?_
  · refine ⟨0, by simp, by simp, ?_⟩
    exact Can.to (by repeat first | exact LessT.nil | refine LessT.drop ?_ | refine LessT.keep ?_ | refine LessT.eq (by simp [cntFold]) ?_) (.cons rfl (by simp [mix_zero]) .nil)
  · obtain ⟨i, hyp, rfl, hcan⟩ := hI
    refine TC.can hcan ?_
    clear hcan
    refine TC.seq ?_
    refine TC.seq ?_
    refine TC.region ?_
    refine TL.vE (Val.move 1 rfl rfl) ?_
    refine TL.vE (Val.move 1 rfl rfl) ?_
    refine TL.vE (by first | exact Val.len rfl rfl rfl rfl | exact Val.lenS rfl rfl rfl) ?_
    refine TL.vE (Val.lss rfl rfl rfl) ?_
    refine TL.nil ?_
    show TC _ _ _ _ _ _
    refine TC.cond rfl (fun hb => ?_) (fun hb => ?_)
    · have hk9 := hb
      refine TC.skip ?_
      show TC _ _ _ _ _ _
      refine TC.seq ?_
      refine TC.block ?_
      refine TC.seq ?_
      have hi : i < xs.length := by simpa [mix_len (mkActS_len k xs)] using hb
      have hlen : xs.length ≤ 2097152 := Nat.le_trans (show xs.length ≤ 1048576 from hmx) (by decide)
      obtain ⟨x, hx⟩ := at_of (xs := xs) (k := i) hi
      have hcs := cntFold_step (c := cntEAct) hx
      have hc1 := cntFold_le cntEAct_nn xs (i + 1)
      have hc0 := cntFold_nn cntEAct_nn (xs.take i)
      have hcd : cntFold cntEAct xs = cntActS xs := rfl
      have hg : ((mix (mkActS k xs) xs i).map dAct)[i]? = some (dAct x) := by simp [List.getElem?_map, mix_get (mkActS_len k xs), hx]
      have hs : ((mix (mkActS k xs) xs i).map dAct).set i (dAct (mkEAct (k + cntFold cntEAct (xs.take i)) x)) = ((mix (mkActS k xs) xs (i + 1)).map dAct) := by rw [← mix_set (mkActS_len k xs) (mkFold_get mkEAct cntEAct k hx), List.map_set]
      have hLl : ((mix (mkActS k xs) xs i).map dAct).length = xs.length := by simp [mix_len (mkActS_len k xs)]
      generalize ((mix (mkActS k xs) xs i).map dAct) = L at *
      simp only [dAct, rAct, mkEAct, cntEAct] at hg hs hcs
      generalize hKI : cntFold cntEAct (xs.take i) = m at *
      refine TC.region ?_
      refine TL.vE (Val.move 1 rfl rfl) ?_
      refine TL.vE (Val.move 1 rfl rfl) ?_
      refine TL.vE (Val.move 1 rfl rfl) ?_
      refine TL.vE (by exact Val.index rfl rfl rfl rfl rfl rfl (by omega) (by simp [hLl]; omega)) ?_
      refine TL.fld ?_
      refine TL.opK rfl fun K hK => ?_
      refine OpT.store (z := 1) rfl rfl rfl rfl (by simp [St.store1, St.storeAll, St.cellAt, St.isMem, St.root, St.wrote, St.kill, St.setRoot, TS.kill, TV.kill, C.kill, Rt.kill, hitR, hitP, shapeOf, setRow, setAt, rowAt, D.row, D.reRow, List.isPrefixOf, St.nest, St.kill, St.setRoot, St.root, List.getElem?_set_self', List.set_set, hg]; rfl) rfl (by simp [St.store1, St.storeAll, St.cellAt, St.isMem, St.root, St.wrote, St.kill, St.setRoot, TS.kill, TV.kill, C.kill, Rt.kill, hitR, hitP, shapeOf, setRow, setAt, rowAt, D.row, D.reRow, List.isPrefixOf, St.nest, St.kill, St.setRoot, St.root, List.getElem?_set_self', List.set_set, hg]; rfl) ?_
      simp only [nrm, Nat.reduceBEq, Nat.reduceBNe, reduceIte]
      refine hK _ ?_
      clear hK K
      refine TL.nil ?_
      show TC _ _ _ _ _ _
      refine TC.seq ?_
      refine TC.region ?_
      refine TL.vE (Val.move 1 rfl rfl) ?_
      refine TL.vE (Val.addO rfl rfl rfl) ?_
      refine TL.vE (Val.assign 1 rfl rfl) ?_
      refine TL.nil ?_
      show TC _ _ _ _ _ _
      refine TC.seq ?_
      refine TC.region ?_
      refine TL.vE (Val.move 1 rfl rfl) ?_
      refine TL.vE (Val.move 1 rfl rfl) ?_
      refine TL.vE (Val.move 1 rfl rfl) ?_
      refine TL.vE (by exact Val.index rfl rfl rfl rfl rfl rfl (by omega) (by simp [hLl]; omega)) ?_
      refine TL.fld ?_
      refine TL.opK rfl fun K hK => ?_
      refine OpT.store (z := 1) rfl rfl rfl rfl (by simp [St.store1, St.storeAll, St.cellAt, St.isMem, St.root, St.wrote, St.kill, St.setRoot, TS.kill, TV.kill, C.kill, Rt.kill, hitR, hitP, shapeOf, setRow, setAt, rowAt, D.row, D.reRow, List.isPrefixOf, St.nest, St.kill, St.setRoot, St.root, List.getElem?_set_self', List.set_set, hg]; rfl) rfl (by simp [St.store1, St.storeAll, St.cellAt, St.isMem, St.root, St.wrote, St.kill, St.setRoot, TS.kill, TV.kill, C.kill, Rt.kill, hitR, hitP, shapeOf, setRow, setAt, rowAt, D.row, D.reRow, List.isPrefixOf, St.nest, St.kill, St.setRoot, St.root, List.getElem?_set_self', List.set_set, hg]; rfl) ?_
      simp only [nrm, Nat.reduceBEq, Nat.reduceBNe, reduceIte]
      refine hK _ ?_
      clear hK K
      refine TL.nil ?_
      show TC _ _ _ _ _ _
      refine TC.seq ?_
      refine TC.region ?_
      refine TL.vE (Val.move 1 rfl rfl) ?_
      refine TL.vE (Val.addO rfl rfl rfl) ?_
      refine TL.vE (Val.assign 1 rfl rfl) ?_
      refine TL.nil ?_
      show TC _ _ _ _ _ _
      refine TC.seq ?_
      refine TC.region ?_
      refine TL.vE (Val.move 1 rfl rfl) ?_
      refine TL.vE (Val.move 1 rfl rfl) ?_
      refine TL.vE (Val.move 1 rfl rfl) ?_
      refine TL.vE (by exact Val.index rfl rfl rfl rfl rfl rfl (by omega) (by simp [hLl]; omega)) ?_
      refine TL.fld ?_
      refine TL.opK rfl fun K hK => ?_
      refine OpT.store (z := 1) rfl rfl rfl rfl (by simp [St.store1, St.storeAll, St.cellAt, St.isMem, St.root, St.wrote, St.kill, St.setRoot, TS.kill, TV.kill, C.kill, Rt.kill, hitR, hitP, shapeOf, setRow, setAt, rowAt, D.row, D.reRow, List.isPrefixOf, St.nest, St.kill, St.setRoot, St.root, List.getElem?_set_self', List.set_set, hg]; rfl) rfl (by simp [St.store1, St.storeAll, St.cellAt, St.isMem, St.root, St.wrote, St.kill, St.setRoot, TS.kill, TV.kill, C.kill, Rt.kill, hitR, hitP, shapeOf, setRow, setAt, rowAt, D.row, D.reRow, List.isPrefixOf, St.nest, St.kill, St.setRoot, St.root, List.getElem?_set_self', List.set_set, hg]; rfl) ?_
      simp only [nrm, Nat.reduceBEq, Nat.reduceBNe, reduceIte]
      refine hK _ ?_
      clear hK K
      refine TL.nil ?_
      show TC _ _ _ _ _ _
      refine TC.seq ?_
      refine TC.region ?_
      refine TL.vE (Val.move 1 rfl rfl) ?_
      refine TL.vE (Val.addO rfl rfl rfl) ?_
      refine TL.vE (Val.assign 1 rfl rfl) ?_
      refine TL.nil ?_
      show TC _ _ _ _ _ _
      refine TC.seq ?_
      refine TC.region ?_
      refine TL.vE (Val.move 1 rfl rfl) ?_
      refine TL.vE (Val.move 1 rfl rfl) ?_
      refine TL.vE (Val.move 1 rfl rfl) ?_
      refine TL.vE (by exact Val.index rfl rfl rfl rfl rfl rfl (by omega) (by simp [hLl]; omega)) ?_
      refine TL.fld ?_
      refine TL.opK rfl fun K hK => ?_
      refine OpT.store (z := 1) rfl rfl rfl rfl (by simp [St.store1, St.storeAll, St.cellAt, St.isMem, St.root, St.wrote, St.kill, St.setRoot, TS.kill, TV.kill, C.kill, Rt.kill, hitR, hitP, shapeOf, setRow, setAt, rowAt, D.row, D.reRow, List.isPrefixOf, St.nest, St.kill, St.setRoot, St.root, List.getElem?_set_self', List.set_set, hg]; rfl) rfl (by simp [St.store1, St.storeAll, St.cellAt, St.isMem, St.root, St.wrote, St.kill, St.setRoot, TS.kill, TV.kill, C.kill, Rt.kill, hitR, hitP, shapeOf, setRow, setAt, rowAt, D.row, D.reRow, List.isPrefixOf, St.nest, St.kill, St.setRoot, St.root, List.getElem?_set_self', List.set_set, hg]; rfl) ?_
      simp only [nrm, Nat.reduceBEq, Nat.reduceBNe, reduceIte]
      refine hK _ ?_
      clear hK K
      refine TL.nil ?_
      show TC _ _ _ _ _ _
      refine TC.seq ?_
      refine TC.region ?_
      refine TL.vE (Val.move 1 rfl rfl) ?_
      refine TL.vE (Val.addO rfl rfl rfl) ?_
      refine TL.vE (Val.assign 1 rfl rfl) ?_
      refine TL.nil ?_
      show TC _ _ _ _ _ _
      refine TC.seq ?_
      refine TC.region ?_
      refine TL.vE (Val.move 1 rfl rfl) ?_
      refine TL.vE (Val.move 1 rfl rfl) ?_
      refine TL.vE (Val.move 1 rfl rfl) ?_
      refine TL.vE (by exact Val.index rfl rfl rfl rfl rfl rfl (by omega) (by simp [hLl]; omega)) ?_
      refine TL.fld ?_
      refine TL.opK rfl fun K hK => ?_
      refine OpT.store (z := 1) rfl rfl rfl rfl (by simp [St.store1, St.storeAll, St.cellAt, St.isMem, St.root, St.wrote, St.kill, St.setRoot, TS.kill, TV.kill, C.kill, Rt.kill, hitR, hitP, shapeOf, setRow, setAt, rowAt, D.row, D.reRow, List.isPrefixOf, St.nest, St.kill, St.setRoot, St.root, List.getElem?_set_self', List.set_set, hg]; rfl) rfl (by simp [St.store1, St.storeAll, St.cellAt, St.isMem, St.root, St.wrote, St.kill, St.setRoot, TS.kill, TV.kill, C.kill, Rt.kill, hitR, hitP, shapeOf, setRow, setAt, rowAt, D.row, D.reRow, List.isPrefixOf, St.nest, St.kill, St.setRoot, St.root, List.getElem?_set_self', List.set_set, hg]; rfl) ?_
      simp only [nrm, Nat.reduceBEq, Nat.reduceBNe, reduceIte]
      refine hK _ ?_
      clear hK K
      refine TL.nil ?_
      show TC _ _ _ _ _ _
      refine TC.seq ?_
      refine TC.region ?_
      refine TL.vE (Val.move 1 rfl rfl) ?_
      refine TL.vE (Val.addO rfl rfl rfl) ?_
      refine TL.vE (Val.assign 1 rfl rfl) ?_
      refine TL.nil ?_
      show TC _ _ _ _ _ _
      refine TC.seq ?_
      refine TC.region ?_
      refine TL.vE (Val.move 1 rfl rfl) ?_
      refine TL.vE (Val.move 1 rfl rfl) ?_
      refine TL.vE (Val.move 1 rfl rfl) ?_
      refine TL.vE (by exact Val.index rfl rfl rfl rfl rfl rfl (by omega) (by simp [hLl]; omega)) ?_
      refine TL.fld ?_
      refine TL.opK rfl fun K hK => ?_
      refine OpT.store (z := 1) rfl rfl rfl rfl (by simp [St.store1, St.storeAll, St.cellAt, St.isMem, St.root, St.wrote, St.kill, St.setRoot, TS.kill, TV.kill, C.kill, Rt.kill, hitR, hitP, shapeOf, setRow, setAt, rowAt, D.row, D.reRow, List.isPrefixOf, St.nest, St.kill, St.setRoot, St.root, List.getElem?_set_self', List.set_set, hg]; rfl) rfl (by simp [St.store1, St.storeAll, St.cellAt, St.isMem, St.root, St.wrote, St.kill, St.setRoot, TS.kill, TV.kill, C.kill, Rt.kill, hitR, hitP, shapeOf, setRow, setAt, rowAt, D.row, D.reRow, List.isPrefixOf, St.nest, St.kill, St.setRoot, St.root, List.getElem?_set_self', List.set_set, hg]; rfl) ?_
      simp only [nrm, Nat.reduceBEq, Nat.reduceBNe, reduceIte]
      refine hK _ ?_
      clear hK K
      refine TL.nil ?_
      show TC _ _ _ _ _ _
      refine TC.region ?_
      refine TL.vE (Val.move 1 rfl rfl) ?_
      refine TL.vE (Val.addO rfl rfl rfl) ?_
      refine TL.vE (Val.assign 1 rfl rfl) ?_
      refine TL.nil ?_
      show TC _ _ _ _ _ _
      refine TC.region ?_
      refine TL.vE (Val.move 1 rfl rfl) ?_
      refine TL.vE (Val.addO rfl rfl rfl) ?_
      refine TL.vE (Val.assign 1 rfl rfl) ?_
      refine TL.nil ?_
      first | refine Seq.normal ⟨_, ?_, i + 1, ?_, rfl, ?_⟩ | refine Seq.normal (Q := fun _ _ => True) ⟨_, ?_, i + 1, ?_, rfl, ?_⟩
      · omega
      · omega
      · exact Can.to (by repeat first | exact LessT.nil | refine LessT.drop ?_ | refine LessT.keep ?_ | refine LessT.eq (by first | rfl | (simp; done) | exact congrArg (fun z : Int => (I z : TS)) (by rw [hcs]; omega) | exact congrArg (fun z : Int => (I z : TS)) (by omega)) ?_) (.cons rfl (by simp [hs]) .nil)
    have hk9 := hb
    refine TC.exit ?_
    show TC _ _ _ _ _ _
    refine TC.seq ?_
    have hn : i = xs.length := (by simp [mix_len (mkActS_len k xs)] at hb; omega)
    subst hn
    rw [mix_all (mkActS_len k xs) (Nat.le_refl _), List.take_length]
    refine TC.region ?_
    refine TL.vE (Val.move 1 rfl rfl) ?_
    refine TL.vE (Val.assign 1 rfl rfl) ?_
    refine TL.nil ?_
    show TC _ _ _ _ _ _
    refine TC.ret ?_
    exact ⟨.inr rfl, [_], [_], _, [.sl 6 ((mkActS k xs).map dAct)], rfl, by decide, rfl, by simp [refV, refC, valC, C.kill, hitR], rfl, rfl, by simp, rfl, ⟨rfl, rfl⟩⟩

theorem laws_heldActS_f (xs : List VAct) (k : Int) (h1 : 0 ≤ k) (h2 : k + cntActS xs ≤ 1000000000000000) (hmx : SmActS xs) : Fun Tryz.prog 23 [L 6 ((mkActS k xs).map dAct), I k] (RV (.int .i64 (k + cntActS xs))) := by
  refine Fun.of Tryz.func23 rfl (by simp [Tryz.ntmps23]) fun w g0 => ?_
  simp only [Tryz.ntmps23, List.length_cons, List.length_nil, Nat.reduceAdd, Nat.reduceSub, List.replicate, List.cons_append, List.nil_append]
  refine TC.seq ?_
  refine TC.region ?_
  refine TL.vE (Val.assign 1 rfl rfl) ?_
  refine TL.nil ?_
  show TC _ _ _ _ _ _
  refine TC.seq ?_
  refine TC.seq ?_
  refine TC.region ?_
  refine TL.vE (Val.assign 1 rfl rfl) ?_
  refine TL.nil ?_
  show TC _ _ _ _ _ _
  refine TC.block ?_
  refine TC.loop (fun μ st => ∃ i : Nat, (i ≤ xs.length) ∧ μ = xs.length - i ∧ Can st ⟨[L 6 ((mkActS k xs).map dAct), I (k + cntFold cntEAct (xs.take i)), .one .dead, .one .dead, .one .dead, I i, .one .dead, .one .dead, .one .dead, .one .dead, .one .dead, .one .dead, .one .dead, .one .dead, .one .dead, .one .dead, .one .dead, .one .dead, .one .dead, .one .dead, .one .dead, .one .dead, .one .dead, .one .dead, .one .dead, .one .dead, .one .dead, .one .dead, .one .dead, .one .dead, .one .dead, .one .dead, .one .dead, .one .dead, .one .dead, .one .dead, .one .dead, .one .dead, .one .dead, .one .dead, .one .dead, .one .dead, .one .dead, .one .dead, .one .dead, .one .dead, .one .dead, .one .dead, .one .dead, .one .dead, .one .dead, .one .dead, .one .dead, .one .dead, .one .dead, .one .dead, .one .dead, .one .dead, .one .dead, .one .dead, .one .dead, .one .dead, .one .dead, .one .dead, .one .dead, .one .dead, .one .dead], []⟩) (xs.length) ?_ fun μ st hI => ?_
  · refine ⟨0, by simp, by simp, ?_⟩
    exact Can.to (by repeat first | exact LessT.nil | refine LessT.drop ?_ | refine LessT.keep ?_ | refine LessT.eq (by simp [cntFold]) ?_) .nil
  · obtain ⟨i, hyp, rfl, hcan⟩ := hI
    refine TC.can hcan ?_
    clear hcan
    refine TC.seq ?_
    refine TC.seq ?_
    refine TC.region ?_
    refine TL.vE (Val.move 1 rfl rfl) ?_
    refine TL.vE (Val.move 1 rfl rfl) ?_
    refine TL.vE (by first | exact Val.len rfl rfl rfl rfl | exact Val.lenS rfl rfl rfl) ?_
    refine TL.vE (Val.lss rfl rfl rfl) ?_
    refine TL.nil ?_
    show TC _ _ _ _ _ _
    refine TC.cond rfl (fun hb => ?_) (fun hb => ?_)
    · have hk9 := hb
      refine TC.skip ?_
      show TC _ _ _ _ _ _
      refine TC.seq ?_
      refine TC.block ?_
      refine TC.seq ?_
      refine TC.seq ?_
      have hi : i < xs.length := by simpa [mkActS_len] using hb
      have hlen : xs.length ≤ 2097152 := Nat.le_trans (show xs.length ≤ 1048576 from hmx) (by decide)
      obtain ⟨x, hx⟩ := at_of (xs := xs) (k := i) hi
      have hcs := cntFold_step (c := cntEAct) hx
      have hc1 := cntFold_le cntEAct_nn xs (i + 1)
      have hc0 := cntFold_nn cntEAct_nn (xs.take i)
      have hcd : cntFold cntEAct xs = cntActS xs := rfl
      have hg : (mkActS k xs)[i]? = some (mkEAct (k + cntFold cntEAct (xs.take i)) x) := mkFold_get mkEAct cntEAct k hx
      generalize hKI : cntFold cntEAct (xs.take i) = m at *
      simp only [cntEAct] at hcs
      refine TC.region ?_
      refine TL.vE (Val.move 1 rfl rfl) ?_
      refine TL.vE (Val.move 1 rfl rfl) ?_
      refine TL.vE (by exact Val.indexC (d := dAct (mkEAct (k + m) x)) rfl rfl rfl rfl rfl (by omega) (by simp [hg])) ?_
      refine TL.fld ?_
      refine TL.ld ?_
      refine TL.vE (Val.move 1 rfl rfl) ?_
      refine TL.vE (Val.neq rfl rfl rfl) ?_
      refine TL.nil ?_
      show TC _ _ _ _ _ _
      refine TC.cond rfl (fun hb => ?_) (fun hb => ?_)
      · have hk18 := hb
        refine TC.seq ?_
        (exfalso; first | omega | (simp [mkEAct] at hb; done) | (simp [mkEAct] at hb; omega) | (simp at hb; omega))
      have hk18 := hb
      refine TC.skip ?_
      show TC _ _ _ _ _ _
      refine TC.seq ?_
      refine TC.region ?_
      refine TL.vE (Val.move 1 rfl rfl) ?_
      refine TL.vE (Val.addO rfl rfl rfl) ?_
      refine TL.vE (Val.assign 1 rfl rfl) ?_
      refine TL.nil ?_
      show TC _ _ _ _ _ _
      refine TC.seq ?_
      refine TC.seq ?_
      refine TC.region ?_
      refine TL.vE (Val.move 1 rfl rfl) ?_
      refine TL.vE (Val.move 1 rfl rfl) ?_
      refine TL.vE (by exact Val.indexC (d := dAct (mkEAct (k + m) x)) rfl rfl rfl rfl rfl (by omega) (by simp [hg])) ?_
      refine TL.fld ?_
      refine TL.ld ?_
      refine TL.vE (Val.move 1 rfl rfl) ?_
      refine TL.vE (Val.neq rfl rfl rfl) ?_
      refine TL.nil ?_
      show TC _ _ _ _ _ _
      refine TC.cond rfl (fun hb => ?_) (fun hb => ?_)
      · have hk27 := hb
        refine TC.seq ?_
        (exfalso; first | omega | (simp [mkEAct] at hb; done) | (simp [mkEAct] at hb; omega) | (simp at hb; omega))
      have hk27 := hb
      refine TC.skip ?_
      show TC _ _ _ _ _ _
      refine TC.seq ?_
      refine TC.region ?_
      refine TL.vE (Val.move 1 rfl rfl) ?_
      refine TL.vE (Val.addO rfl rfl rfl) ?_
      refine TL.vE (Val.assign 1 rfl rfl) ?_
      refine TL.nil ?_
      show TC _ _ _ _ _ _
      refine TC.seq ?_
      refine TC.seq ?_
      refine TC.region ?_
      refine TL.vE (Val.move 1 rfl rfl) ?_
      refine TL.vE (Val.move 1 rfl rfl) ?_
      refine TL.vE (by exact Val.indexC (d := dAct (mkEAct (k + m) x)) rfl rfl rfl rfl rfl (by omega) (by simp [hg])) ?_
      refine TL.fld ?_
      refine TL.ld ?_
      refine TL.vE (Val.move 1 rfl rfl) ?_
      refine TL.vE (Val.neq rfl rfl rfl) ?_
      refine TL.nil ?_
      show TC _ _ _ _ _ _
      refine TC.cond rfl (fun hb => ?_) (fun hb => ?_)
      · have hk36 := hb
        refine TC.seq ?_
        (exfalso; first | omega | (simp [mkEAct] at hb; done) | (simp [mkEAct] at hb; omega) | (simp at hb; omega))
      have hk36 := hb
      refine TC.skip ?_
      show TC _ _ _ _ _ _
      refine TC.seq ?_
      refine TC.region ?_
      refine TL.vE (Val.move 1 rfl rfl) ?_
      refine TL.vE (Val.addO rfl rfl rfl) ?_
      refine TL.vE (Val.assign 1 rfl rfl) ?_
      refine TL.nil ?_
      show TC _ _ _ _ _ _
      refine TC.seq ?_
      refine TC.seq ?_
      refine TC.region ?_
      refine TL.vE (Val.move 1 rfl rfl) ?_
      refine TL.vE (Val.move 1 rfl rfl) ?_
      refine TL.vE (by exact Val.indexC (d := dAct (mkEAct (k + m) x)) rfl rfl rfl rfl rfl (by omega) (by simp [hg])) ?_
      refine TL.fld ?_
      refine TL.ld ?_
      refine TL.vE (Val.move 1 rfl rfl) ?_
      refine TL.vE (Val.neq rfl rfl rfl) ?_
      refine TL.nil ?_
      show TC _ _ _ _ _ _
      refine TC.cond rfl (fun hb => ?_) (fun hb => ?_)
      · have hk45 := hb
        refine TC.seq ?_
        (exfalso; first | omega | (simp [mkEAct] at hb; done) | (simp [mkEAct] at hb; omega) | (simp at hb; omega))
      have hk45 := hb
      refine TC.skip ?_
      show TC _ _ _ _ _ _
      refine TC.seq ?_
      refine TC.region ?_
      refine TL.vE (Val.move 1 rfl rfl) ?_
      refine TL.vE (Val.addO rfl rfl rfl) ?_
      refine TL.vE (Val.assign 1 rfl rfl) ?_
      refine TL.nil ?_
      show TC _ _ _ _ _ _
      refine TC.seq ?_
      refine TC.seq ?_
      refine TC.region ?_
      refine TL.vE (Val.move 1 rfl rfl) ?_
      refine TL.vE (Val.move 1 rfl rfl) ?_
      refine TL.vE (by exact Val.indexC (d := dAct (mkEAct (k + m) x)) rfl rfl rfl rfl rfl (by omega) (by simp [hg])) ?_
      refine TL.fld ?_
      refine TL.ld ?_
      refine TL.vE (Val.move 1 rfl rfl) ?_
      refine TL.vE (Val.neq rfl rfl rfl) ?_
      refine TL.nil ?_
      show TC _ _ _ _ _ _
      refine TC.cond rfl (fun hb => ?_) (fun hb => ?_)
      · have hk54 := hb
        refine TC.seq ?_
        (exfalso; first | omega | (simp [mkEAct] at hb; done) | (simp [mkEAct] at hb; omega) | (simp at hb; omega))
      have hk54 := hb
      refine TC.skip ?_
      show TC _ _ _ _ _ _
      refine TC.seq ?_
      refine TC.region ?_
      refine TL.vE (Val.move 1 rfl rfl) ?_
      refine TL.vE (Val.addO rfl rfl rfl) ?_
      refine TL.vE (Val.assign 1 rfl rfl) ?_
      refine TL.nil ?_
      show TC _ _ _ _ _ _
      refine TC.seq ?_
      refine TC.seq ?_
      refine TC.region ?_
      refine TL.vE (Val.move 1 rfl rfl) ?_
      refine TL.vE (Val.move 1 rfl rfl) ?_
      refine TL.vE (by exact Val.indexC (d := dAct (mkEAct (k + m) x)) rfl rfl rfl rfl rfl (by omega) (by simp [hg])) ?_
      refine TL.fld ?_
      refine TL.ld ?_
      refine TL.vE (Val.move 1 rfl rfl) ?_
      refine TL.vE (Val.neq rfl rfl rfl) ?_
      refine TL.nil ?_
      show TC _ _ _ _ _ _
      refine TC.cond rfl (fun hb => ?_) (fun hb => ?_)
      · have hk63 := hb
        refine TC.seq ?_
        (exfalso; first | omega | (simp [mkEAct] at hb; done) | (simp [mkEAct] at hb; omega) | (simp at hb; omega))
      have hk63 := hb
      refine TC.skip ?_
      show TC _ _ _ _ _ _
      refine TC.region ?_
      refine TL.vE (Val.move 1 rfl rfl) ?_
      refine TL.vE (Val.addO rfl rfl rfl) ?_
      refine TL.vE (Val.assign 1 rfl rfl) ?_
      refine TL.nil ?_
      show TC _ _ _ _ _ _
      refine TC.region ?_
      refine TL.vE (Val.move 1 rfl rfl) ?_
      refine TL.vE (Val.addO rfl rfl rfl) ?_
      refine TL.vE (Val.assign 1 rfl rfl) ?_
      refine TL.nil ?_
      first | refine Seq.normal ⟨_, ?_, i + 1, ?_, rfl, ?_⟩ | refine Seq.normal (Q := fun _ _ => True) ⟨_, ?_, i + 1, ?_, rfl, ?_⟩
      · omega
      · omega
      · exact Can.to (by repeat first | exact LessT.nil | refine LessT.drop ?_ | refine LessT.keep ?_ | refine LessT.eq (by first | rfl | (simp; done) | exact congrArg (fun z : Int => (I z : TS)) (by rw [hcs]; omega) | exact congrArg (fun z : Int => (I z : TS)) (by omega)) ?_) .nil
    have hk9 := hb
    refine TC.exit ?_
    show TC _ _ _ _ _ _
    refine TC.seq ?_
    refine TC.region ?_
    refine TL.vE (Val.move 1 rfl rfl) ?_
    refine TL.vE (Val.assign 1 rfl rfl) ?_
    refine TL.nil ?_
    show TC _ _ _ _ _ _
    refine TC.ret ?_
    exact ⟨.inr rfl, [_], [_], _, rfl, by decide, rfl, by simp [refV, refC, valC, C.kill, hitR], rfl, resV (by have hn : i = xs.length := (by simp [mkActS_len] at hb; omega); subst hn; rw [List.take_length]; rfl)⟩

theorem laws_markScript_f (x : VScript) (k : Int) (h1 : 0 ≤ k) (h2 : k + cntVScript x ≤ 1000000000000000) (hmx : SmScript x) : Fun2 Tryz.prog 7 (⟨false, [.sl 1 (x.All.map dInsSS), .sl 6 (x.Acts.map dAct)]⟩) [.one (.agg [.ref ⟨1000000, [], 0⟩, .ref ⟨1000000, [], 1⟩]), I k] (RP2 [.sl 1 ((mkInsSSS (k) x.All).map dInsSS), .sl 6 ((mkActS (k + cntInsSSS x.All) x.Acts).map dAct)] (I (k + cntInsSSS x.All + cntActS x.Acts))) := by
  refine Fun2.of Tryz.func7 rfl (by simp [Tryz.ntmps7]) fun w g0 => ?_
  simp only [Tryz.ntmps7, List.length_cons, List.length_nil, Nat.reduceAdd, Nat.reduceSub, List.replicate, List.cons_append, List.nil_append, Hand.k, pinK, pinB, if_true, if_false, Bool.false_eq_true, List.map_cons, List.map_nil]
  have hq0 := cntInsSSS_nn x.All
  have hq1 := cntActS_nn x.Acts
  simp only [cntVScript] at h2
  refine TC.seq ?_
  refine TC.region ?_
  refine TL.opK rfl fun K hK => ?_
  first | refine OpT.box rfl rfl (z := 1) rfl (by simp) ?_ | refine OpT.boxAgg rfl rfl rfl ?_
  simp only [nrm, Nat.reduceBEq, Nat.reduceBNe, reduceIte]
  refine hK _ ?_
  clear hK K
  refine TL.vE (Val.assign 1 rfl rfl) ?_
  refine TL.nil ?_
  show TC _ _ _ _ _ _
  refine TC.seq ?_
  refine TC.region ?_
  refine TL.fld ?_
  refine TL.ld ?_
  refine TL.vE (Val.move 1 rfl rfl) ?_
  refine TL.call2 (yes_none rfl) rfl rfl rfl rfl rfl rfl (laws_markInsSSS_f x.All (k) (by omega) (by omega) (hmx.1)) (srcs := [(1000000, 0)]) (bx := none) (.list rfl) (by repeat first | exact .nil | refine GivesAll.cons (.c (.ro _)) ?_ | refine GivesAll.cons (.c (.hand rfl)) ?_ | refine GivesAll.cons (.c (.snap rfl (by first | assumption | exact w_InsS _ | exact w_InsSS _ | exact w_InsSSS _ | exact w_ActS _) rfl)) ?_ | refine GivesAll.cons (.ptr rfl) ?_ | refine GivesAll.cons (.cptr _) ?_ | refine GivesAll.cons (.fn _) ?_ | refine GivesAll.cons (.agg (by repeat first | exact .nil | refine GiveCs.cons (.ro _) ?_ | refine GiveCs.cons (.hand rfl) ?_ | refine GiveCs.cons (.snap rfl (by first | assumption | exact w_InsS _ | exact w_InsSS _ | exact w_InsSSS _ | exact w_ActS _) rfl) ?_)) ?_) rfl (by simp [St.handed, killR, killP, topOf, handRow, idxOf, St.put, TS.kill, TV.kill, C.kill, boxSrc, -Option.not_isSome]; rfl) ?_
  refine TL.vE (Val.assign 1 rfl rfl) ?_
  refine TL.nil ?_
  show TC _ _ _ _ _ _
  refine TC.seq ?_
  refine TC.region ?_
  refine TL.fld ?_
  refine TL.ld ?_
  refine TL.vE (Val.move 1 rfl rfl) ?_
  refine TL.call2 (yes_none rfl) rfl rfl rfl rfl rfl rfl (laws_markActS_f x.Acts (k + cntInsSSS x.All) (by omega) (by omega) (hmx.2)) (srcs := [(1000000, 1)]) (bx := none) (.list rfl) (by repeat first | exact .nil | refine GivesAll.cons (.c (.ro _)) ?_ | refine GivesAll.cons (.c (.hand rfl)) ?_ | refine GivesAll.cons (.c (.snap rfl (by first | assumption | exact w_InsS _ | exact w_InsSS _ | exact w_InsSSS _ | exact w_ActS _) rfl)) ?_ | refine GivesAll.cons (.ptr rfl) ?_ | refine GivesAll.cons (.cptr _) ?_ | refine GivesAll.cons (.fn _) ?_ | refine GivesAll.cons (.agg (by repeat first | exact .nil | refine GiveCs.cons (.ro _) ?_ | refine GiveCs.cons (.hand rfl) ?_ | refine GiveCs.cons (.snap rfl (by first | assumption | exact w_InsS _ | exact w_InsSS _ | exact w_InsSSS _ | exact w_ActS _) rfl) ?_)) ?_) rfl (by simp [St.handed, killR, killP, topOf, handRow, idxOf, St.put, TS.kill, TV.kill, C.kill, boxSrc, -Option.not_isSome]; rfl) ?_
  refine TL.vE (Val.assign 1 rfl rfl) ?_
  refine TL.nil ?_
  show TC _ _ _ _ _ _
  refine TC.seq ?_
  refine TC.region ?_
  refine TL.vE (Val.move 1 rfl rfl) ?_
  refine TL.vE (Val.assign 1 rfl rfl) ?_
  refine TL.nil ?_
  show TC _ _ _ _ _ _
  refine TC.ret ?_
  exact ⟨.inr rfl, [_], [_], _, [.sl 1 ((mkInsSSS (k) x.All).map dInsSS), .sl 6 ((mkActS (k + cntInsSSS x.All) x.Acts).map dAct)], rfl, by decide, rfl, by simp [refV, refC, valC, C.kill, hitR], rfl, rfl, by simp, rfl, ⟨rfl, rfl⟩⟩

theorem laws_heldScript_f (x : VScript) (k : Int) (h1 : 0 ≤ k) (h2 : k + cntVScript x ≤ 1000000000000000) (hmx : SmScript x) : Fun Tryz.prog 8 [A (rScript (mkVScript k x)), I k] (RV (.int .i64 (k + cntInsSSS x.All + cntActS x.Acts))) := by
  refine Fun.of Tryz.func8 rfl (by simp [Tryz.ntmps8]) fun w g0 => ?_
  simp only [Tryz.ntmps8, List.length_cons, List.length_nil, Nat.reduceAdd, Nat.reduceSub, List.replicate, List.cons_append, List.nil_append]
  have hq0 := cntInsSSS_nn x.All
  have hq1 := cntActS_nn x.Acts
  simp only [cntVScript] at h2
  refine TC.seq ?_
  refine TC.region ?_
  refine TL.opK rfl fun K hK => ?_
  first | refine OpT.box rfl rfl (z := 1) rfl (by simp) ?_ | refine OpT.boxAgg rfl rfl rfl ?_
  simp only [nrm, Nat.reduceBEq, Nat.reduceBNe, reduceIte]
  refine hK _ ?_
  clear hK K
  refine TL.vE (Val.assign 1 rfl rfl) ?_
  refine TL.nil ?_
  show TC _ _ _ _ _ _
  refine TC.seq ?_
  refine TC.region ?_
  refine TL.fld ?_
  refine TL.ld ?_
  refine TL.vE (Val.move 1 rfl rfl) ?_
  refine TL.callF (yes_none rfl) rfl rfl rfl rfl rfl rfl ((laws_heldInsSSS_f x.All (k) (by omega) (by omega) (hmx.1)).k) (by repeat first | exact .nil | refine Snaps.cons (.ro _) ?_ | refine Snaps.cons (.aggRo rfl) ?_ | refine Snaps.cons (.cptr _) ?_ | refine Snaps.cons (.fn _) ?_ | refine Snaps.cons (.ownRef rfl (by first | assumption | exact w_InsS _ | exact w_InsSS _ | exact w_InsSSS _ | exact w_ActS _)) ?_ | refine Snaps.cons (.aggR (by repeat first | exact .nil | refine SnapCs.cons (.ro _) ?_ | refine SnapCs.cons (.ref rfl (by first | assumption | exact w_InsS _ | exact w_InsSS _ | exact w_InsSSS _ | exact w_ActS _)) ?_)) ?_) rfl (by simp only [nput]; rfl) ?_
  refine TL.vE (Val.assign 1 rfl rfl) ?_
  refine TL.nil ?_
  show TC _ _ _ _ _ _
  refine TC.seq ?_
  refine TC.seq ?_
  refine TC.region ?_
  refine TL.vE (Val.move 1 rfl rfl) ?_
  refine TL.vE (Val.lss rfl rfl rfl) ?_
  refine TL.nil ?_
  show TC _ _ _ _ _ _
  refine TC.cond rfl (fun hb => ?_) (fun hb => ?_)
  · have hk10 := hb
    refine TC.seq ?_
    (exfalso; simp at hb; omega)
  have hk10 := hb
  refine TC.skip ?_
  show TC _ _ _ _ _ _
  refine TC.seq ?_
  refine TC.region ?_
  refine TL.fld ?_
  refine TL.ld ?_
  refine TL.vE (Val.move 1 rfl rfl) ?_
  refine TL.callF (yes_none rfl) rfl rfl rfl rfl rfl rfl ((laws_heldActS_f x.Acts (k + cntInsSSS x.All) (by omega) (by omega) (hmx.2)).k) (by repeat first | exact .nil | refine Snaps.cons (.ro _) ?_ | refine Snaps.cons (.aggRo rfl) ?_ | refine Snaps.cons (.cptr _) ?_ | refine Snaps.cons (.fn _) ?_ | refine Snaps.cons (.ownRef rfl (by first | assumption | exact w_InsS _ | exact w_InsSS _ | exact w_InsSSS _ | exact w_ActS _)) ?_ | refine Snaps.cons (.aggR (by repeat first | exact .nil | refine SnapCs.cons (.ro _) ?_ | refine SnapCs.cons (.ref rfl (by first | assumption | exact w_InsS _ | exact w_InsSS _ | exact w_InsSSS _ | exact w_ActS _)) ?_)) ?_) rfl (by simp only [nput]; rfl) ?_
  refine TL.vE (Val.assign 1 rfl rfl) ?_
  refine TL.nil ?_
  show TC _ _ _ _ _ _
  refine TC.seq ?_
  refine TC.seq ?_
  refine TC.region ?_
  refine TL.vE (Val.move 1 rfl rfl) ?_
  refine TL.vE (Val.lss rfl rfl rfl) ?_
  refine TL.nil ?_
  show TC _ _ _ _ _ _
  refine TC.cond rfl (fun hb => ?_) (fun hb => ?_)
  · have hk16 := hb
    refine TC.seq ?_
    (exfalso; simp at hb; omega)
  have hk16 := hb
  refine TC.skip ?_
  show TC _ _ _ _ _ _
  refine TC.seq ?_
  refine TC.region ?_
  refine TL.vE (Val.move 1 rfl rfl) ?_
  refine TL.vE (Val.assign 1 rfl rfl) ?_
  refine TL.nil ?_
  show TC _ _ _ _ _ _
  refine TC.ret ?_
  exact ⟨.inr rfl, [_], [_], _, rfl, by decide, rfl, by simp [refV, refC, valC, C.kill, hitR], rfl, rfl⟩
end Go.Proofs.YtfbjcdhphhfpfaaGreatDoor.T

