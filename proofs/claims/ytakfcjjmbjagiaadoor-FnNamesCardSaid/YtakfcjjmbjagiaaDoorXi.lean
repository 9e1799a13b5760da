/- FnNames' own walk. PRINTED by gen.py out of spec_names.py. -/
import Derived.Test.YtakfcjjmbjagiaaDoorXg
import Derived.Test.YtakfcjjmbjagiaaDoorXh
import Derived.Test.YtakfcjjmbjagiaaDoorWs
import Derived.Test.YtakfcjjmbjagiaaDoorTzf
namespace Go.Proofs.YtakfcjjmbjagiaaDoor.T
open Go Go.RowKit
set_option linter.unusedVariables false
set_option linter.unusedSimpArgs false
set_option maxRecDepth 100000
set_option maxHeartbeats 1000000

def exitNames : List ByteArray := ["none".toUTF8, "fault".toUTF8, "call".toUTF8, "out".toUTF8, "halt".toUTF8]
def exitName (k : Int) : ByteArray := if inR k 0 4 then (exitNames[k.toNat]?).getD ⟨#[]⟩ else ⟨#[63]⟩
theorem actNames_ne0 : ∀ i k : Fin 17, k.val < i.val → ((actName ((i.val : Int) + 1)).toList == (actName ((k.val : Int) + 1)).toList) = false := by decide +kernel
theorem opNames_ne0 : ∀ i k : Fin 8, k.val < i.val → ((opName ((i.val : Int) + 1)).toList == (opName ((k.val : Int) + 1)).toList) = false := by decide +kernel
theorem exitNames_ne0 : ∀ i k : Fin 4, k.val < i.val → ((exitName ((i.val : Int) + 1)).toList == (exitName ((k.val : Int) + 1)).toList) = false := by decide +kernel
theorem actNames_ne {i k : Nat} (h : i < 17) (hk : k < i) : ((actName ((i : Int) + 1)).toList == (actName ((k : Int) + 1)).toList) = false := actNames_ne0 ⟨i, h⟩ ⟨k, by omega⟩ hk
theorem opNames_ne {i k : Nat} (h : i < 8) (hk : k < i) : ((opName ((i : Int) + 1)).toList == (opName ((k : Int) + 1)).toList) = false := opNames_ne0 ⟨i, h⟩ ⟨k, by omega⟩ hk
theorem exitNames_ne {i k : Nat} (h : i < 4) (hk : k < i) : ((exitName ((i : Int) + 1)).toList == (exitName ((k : Int) + 1)).toList) = false := exitNames_ne0 ⟨i, h⟩ ⟨k, by omega⟩ hk
theorem name_ok {a b : Int} (ha : 0 ≤ a) (hb : 0 ≤ b) : insOk ⟨1 + a.tmod 2, b.tmod 100⟩ = true := by
  have h1 : a.tmod 2 = a % 2 := Int.tmod_eq_emod_of_nonneg ha
  have h2 : b.tmod 100 = b % 100 := Int.tmod_eq_emod_of_nonneg hb
  have h3 : (1 + a.tmod 2) = 1 ∨ (1 + a.tmod 2) = 2 := by omega
  unfold insOk
  simp only
  rw [if_pos (by omega)]
  simp only [inR, Bool.and_eq_true, decide_eq_true_eq]
  omega
section
variable {P : Program} {w0 : World} {g0 : Gh} {st : St}
theorem Val.cast {o : Oper} {t t' : TS} (h : Val P w0 g0 o st t) (e : t = t') : Val P w0 g0 o st t' := e ▸ h
theorem OpM.alloc {o : Oper} {t : TypeId} {Q : St → Prop} (ho : o.op = .alloc t) {k : Nat} (hd : o.dst = some k) {z : Value} (hz : (P.info? t).bind (·.zero) = some z) {row : List D} (hrow : zeroD P 6 t = some row)
    (hv : z.cells.toList = row.map zeroV) (hok : row.all zeroOk = true) (hq : Q ((st.fresh k ⟨true, row.map C.own⟩).put (some k) (.one (.ptr ⟨k, [], 0⟩)))) (hkp : k < 1000000 := by decide) : OpM P w0 g0 o st Q := fun a w g hR K hK => by
  have hsz : row.length = z.cells.size := by
    have := congrArg List.length hv
    simpa using this.symm
  obtain ⟨g', hR', had⟩ := hR.box (k := k) hkp (cells := z.cells) (e := t) (row := row.map C.own) (by simpa using hsz) (fun q c' u hq hu => by
    rw [List.getElem?_map, Option.map_eq_some_iff] at hq
    obtain ⟨d, hq, rfl⟩ := hq
    have hdk := List.all_eq_true.1 hok d (List.mem_of_getElem? hq)
    have hu' : u = zeroV d := by
      rw [← Array.getElem?_toList, hv, List.getElem?_map, hq] at hu
      simpa using hu.symm
    subst hu'
    cases d with
    | v x => exact ⟨rfl, hdk⟩
    | sl sz ds => cases ds with
      | nil => exact rfl
      | cons => cases hdk
    | _ => cases hdk)
  have hzv : (zeroValue t).run P w = .ok z w := by
    rw [Option.bind_eq_some_iff] at hz
    obtain ⟨i, h1, h2⟩ := hz
    simp [zeroValue, typeInfo, h1, h2]
  have hrun : (execOp a.eval o).run P w = .ok (.value (.pointer (some ⟨w.heap.size, 0, none⟩))) (w.alloc (.cells z.cells t)) := by
    simp [execOp, ho, Instr.alloc, hzv, newVar, newRow]
  rw [hrun]
  refine ⟨⟨rfl, rfl, rfl, (by show w.heap.size ≤ (w.heap.push _).size; rw [Array.size_push]; exact Nat.le_succ _), fun b hb => Below.heap_alloc _ _ _ hb⟩, ?_⟩
  have hp : RepS (w.alloc (.cells z.cells t)) g' (.one (.ptr ⟨k, [], 0⟩)) (.pointer (some ⟨w.heap.size, 0, none⟩)) := by
    have := RepT.ptr (w := w.alloc (.cells z.cells t)) (g := g') ⟨k, [], 0⟩
    simp only [had, cellAddr, Nat.add_zero] at this
    exact .one _ _ this
  rw [hd]
  exact hK _ _ _ g' hq (hR'.put hp (some k))
end
-- loop.example/g00975/impl.ExitName: params ['int'] results ['string'] ('arr', [('app', 'Go.ResultVar.tmp', ['2'])])
theorem impl_ExitName_f (k : Int) : Fun Tryd.prog 27 [I k] (RV (.string (exitName k))) := by
  refine Fun.of Tryd.func27 rfl (by simp [Tryd.ntmps27]) fun w g0 => ?_
  simp only [Tryd.ntmps27, List.length_cons, List.length_nil, Nat.reduceAdd, Nat.reduceSub, List.replicate, List.cons_append, List.nil_append]
  refine TC.seq ?_
  -- region 0
  refine TC.region ?_
  refine TL.valE rfl (Val.assign 1 rfl rfl) (by simp only [St.put, List.set_cons_succ, List.set_cons_zero]; rfl) ?_
  refine TL.nil ?_
  show TC _ _ _ _ _ _
  refine TC.seq ?_
  refine TC.seq ?_
  -- region 1
  refine TC.region ?_
  refine TL.valE rfl (Val.move 1 rfl rfl) (by simp only [St.put, List.set_cons_succ, List.set_cons_zero]; rfl) ?_
  refine TL.callF (yes_none rfl) rfl rfl rfl rfl rfl rfl ((impl_within_f _ _ _).k) (by repeat first | exact .nil | refine Snaps.cons (.ro _) ?_ | refine Snaps.cons (.aggRo rfl) ?_ | refine Snaps.cons (.cptr _) ?_ | refine Snaps.cons (.fn _) ?_ | refine Snaps.cons (.ownRef rfl (by first | assumption | exact whole_map _ _ (fun w c hc => by simp only [D.row, List.mem_cons, List.not_mem_nil, or_false] at hc; subst hc; exact .v _))) ?_ | refine Snaps.cons (.aggR (by repeat first | exact .nil | refine SnapCs.cons (.ro _) ?_ | refine SnapCs.cons (.ref rfl (by first | assumption | exact whole_map _ _ (fun w c hc => by simp only [D.row, List.mem_cons, List.not_mem_nil, or_false] at hc; subst hc; exact .v _))) ?_)) ?_) rfl (by simp only [St.put, List.set_cons_succ, List.set_cons_zero]; rfl) ?_
  refine TL.valE rfl (Val.not rfl rfl) (by simp only [St.put, List.set_cons_succ, List.set_cons_zero]; rfl) ?_
  refine TL.nil ?_
  show TC _ _ _ _ _ _
  refine TC.cond rfl (fun hb => ?_) (fun hb => ?_)
  · refine TC.seq ?_
    -- region 2
    refine TC.region ?_
    refine TL.valE rfl (Val.assign 1 rfl rfl) (by simp only [St.put, List.set_cons_succ, List.set_cons_zero]; rfl) ?_
    refine TL.nil ?_
    show TC _ _ _ _ _ _
    refine TC.ret ?_
    exact ⟨.inr rfl, [_], [_], _, rfl, by decide, rfl, by simp [refV, refC, valC], rfl, resV (by simp_all [exitName])⟩
  · refine TC.skip ?_
    show TC _ _ _ _ _ _
    refine TC.seq ?_
    have hr : 0 ≤ k ∧ k ≤ 4 := by simpa [inR] using hb
    obtain ⟨u, hu⟩ := at_of (xs := exitNames) (k := k.toNat) (by simp [exitNames]; omega)
    -- region 3
    refine TC.region ?_
    refine TL.opK rfl fun K hK => ?_
    refine OpT.buildP rfl rfl (xs := exitNames.map fun s => .const (.string s)) rfl rfl (tvs := exitNames.map fun s => .c (.ro (.v (.string s)))) rfl rfl (sz := 1) rfl rfl rfl (by decide) (by decide) ?_ -- 6
    simp only [St.fresh, St.kill, St.setRoot, St.put, St.renew, TS.kill, TV.kill, C.kill, Rt.kill, boxC, List.map_cons, List.map_nil, List.filter_cons, List.filter_nil, List.set_cons_succ, List.set_cons_zero, List.contains_cons, List.contains_nil, Nat.reduceBEq, Nat.reduceBNe, St.wrote, hitR, hitP, shapeOf, List.isPrefixOf, List.append_eq, Bool.and_true, Bool.true_and, Bool.and_false, Bool.false_and, List.nil_append, List.cons_append, beq_self_eq_true, bne_self_eq_false, Bool.or_false, Bool.or_true, Bool.not_true, Bool.not_false, Bool.false_eq_true, if_true, if_false, reduceIte, resT, valsD, refsD, refD, nextD, nextsD, cellsD, isSl, List.append_nil]
    refine hK _ ?_
    clear hK K
    refine TL.valE rfl (Val.move 1 rfl rfl) (by simp only [St.put, List.set_cons_succ, List.set_cons_zero]; rfl) ?_
    refine TL.valE rfl (by exact Val.index rfl rfl rfl rfl rfl rfl (by omega) (by simp [exitNames]; omega)) (by simp only [St.put, List.set_cons_succ, List.set_cons_zero]; rfl) ?_
    refine TL.valE rfl (by exact Val.load rfl rfl rfl (c := .own (.v (.string u))) (by simp [St.cellAt, St.root, rowAt, D.row, elD, cellD, hu]) rfl) (by simp only [St.put, List.set_cons_succ, List.set_cons_zero, valC]; rfl) ?_
    refine TL.valE rfl (Val.assign 1 rfl rfl) (by simp only [St.put, List.set_cons_succ, List.set_cons_zero]; rfl) ?_
    refine TL.nil ?_
    show TC _ _ _ _ _ _
    refine TC.ret ?_
    exact ⟨.inr rfl, [_], [_], _, rfl, by decide, rfl, by simp [refV, refC, valC], rfl, resV (by unfold exitName; rw [if_pos (by simpa using hb), hu]; rfl)⟩

-- loop.example/g00975/laws.FnNames: params ['[]uint8'] results ['bool'] ('arr', [('app', 'Go.ResultVar.tmp', ['2'])])
theorem laws_FnNames_f (ds : List D) (hby : isBytes ds) : FunW (TabE) Tryd.prog 6 [L 1 ds] (RV (.bool true)) := by
  refine FunW.of (TabE.keep) Tryd.func6 rfl (by simp [Tryd.ntmps6]) fun w g0 hW => ?_
  simp only [Tryd.ntmps6, List.length_cons, List.length_nil, Nat.reduceAdd, Nat.reduceSub, List.replicate, List.cons_append, List.nil_append]
  have hW1 : ∀ w', Kept w g0 w' → Tab w' := fun w' h => (hW w' h).tab
  refine TC.seq ?_
  -- region 0
  refine TC.region ?_
  refine TL.valE rfl (Val.assign 1 rfl rfl) (by simp only [St.put, List.set_cons_succ, List.set_cons_zero]; rfl) ?_
  refine TL.nil ?_
  show TC _ _ _ _ _ _
  refine TC.seq ?_
  refine TC.seq ?_
  -- region 1
  refine TC.region ?_
  refine TL.valE rfl (Val.move 1 rfl rfl) (by simp only [St.put, List.set_cons_succ, List.set_cons_zero]; rfl) ?_
  refine TL.callF (yes_none rfl) rfl rfl rfl rfl rfl rfl ((laws_big_f ds).k) (by repeat first | exact .nil | refine Snaps.cons (.ro _) ?_ | refine Snaps.cons (.aggRo rfl) ?_ | refine Snaps.cons (.cptr _) ?_ | refine Snaps.cons (.fn _) ?_ | refine Snaps.cons (.ownRef rfl (by first | assumption | exact whole_map _ _ (fun w c hc => by simp only [D.row, List.mem_cons, List.not_mem_nil, or_false] at hc; subst hc; exact .v _))) ?_ | refine Snaps.cons (.aggR (by repeat first | exact .nil | refine SnapCs.cons (.ro _) ?_ | refine SnapCs.cons (.ref rfl (by first | assumption | exact whole_map _ _ (fun w c hc => by simp only [D.row, List.mem_cons, List.not_mem_nil, or_false] at hc; subst hc; exact .v _))) ?_)) ?_) rfl (by simp only [St.put, List.set_cons_succ, List.set_cons_zero]; rfl) ?_
  refine TL.nil ?_
  show TC _ _ _ _ _ _
  refine TC.cond rfl (fun hb => ?_) (fun hb => ?_)
  · refine TC.seq ?_
    -- region 2
    refine TC.region ?_
    refine TL.valE rfl (Val.assign 1 rfl rfl) (by simp only [St.put, List.set_cons_succ, List.set_cons_zero]; rfl) ?_
    refine TL.nil ?_
    show TC _ _ _ _ _ _
    refine TC.ret ?_
    exact ⟨.inr rfl, [_], [_], _, rfl, by decide, rfl, by simp [refV, refC, valC], rfl, rfl⟩
  · refine TC.skip ?_
    show TC _ _ _ _ _ _
    refine TC.seq ?_
    have hn : ds.length ≤ 1048576 := by simp at hb; omega
    -- region 3
    refine TC.region ?_
    refine TL.valE rfl (Val.move 1 rfl rfl) (by simp only [St.put, List.set_cons_succ, List.set_cons_zero]; rfl) ?_
    refine TL.opK rfl fun K hK => ?_
    refine OpT.call rfl rfl rfl rfl rfl rfl (by repeat first | exact .nil | refine Snaps.cons (.ro _) ?_) ((spec_DrawPlaces_f ds hby hn).k) (fun r hr => hr.ok) (fun r hr => ?_)
    obtain ⟨p, hp1, hp2, rfl⟩ := hr
    obtain ⟨pa, pb, pr, rfl⟩ : ∃ pa pb pr, p = pa :: pb :: pr := by rcases p with _ | ⟨pa, _ | ⟨pb, pr⟩⟩ <;> simp at hp1 <;> exact ⟨_, _, _, rfl⟩
    simp only [St.called]
    simp only [St.fresh, St.kill, St.setRoot, St.put, St.renew, TS.kill, TV.kill, C.kill, Rt.kill, boxC, List.map_cons, List.map_nil, List.filter_cons, List.filter_nil, List.set_cons_succ, List.set_cons_zero, List.contains_cons, List.contains_nil, Nat.reduceBEq, Nat.reduceBNe, St.wrote, hitR, hitP, shapeOf, List.isPrefixOf, List.append_eq, Bool.and_true, Bool.true_and, Bool.and_false, Bool.false_and, List.nil_append, List.cons_append, beq_self_eq_true, bne_self_eq_false, Bool.or_false, Bool.or_true, Bool.not_true, Bool.not_false, Bool.false_eq_true, if_true, if_false, reduceIte, resT, valsD, refsD, refD, nextD, nextsD, cellsD, isSl, List.append_nil]
    refine hK _ ?_
    clear hK K
    refine TL.valE rfl (Val.assign 1 rfl rfl) (by simp only [St.put, List.set_cons_succ, List.set_cons_zero]; rfl) ?_
    refine TL.nil ?_
    show TC _ _ _ _ _ _
    refine TC.seq ?_
    refine TC.seq ?_
    have ha := hp2 pa (by simp)
    have hb2 := hp2 pb (by simp)
    -- region 4
    refine TC.region ?_
    refine TL.valE rfl (Val.assign 1 rfl rfl) (by simp only [St.put, List.set_cons_succ, List.set_cons_zero]; rfl) ?_
    refine TL.nil ?_
    show TC _ _ _ _ _ _
    refine TC.block ?_
    refine TC.loop (fun μ st => ∃ i : Nat, (i ≤ 17) ∧ μ = 17 - i ∧ Can st ⟨[.one .dead, .one .dead, .one .dead, .one (.c (.ref ⟨12, [], 0⟩)), I (i + 1), .one .dead, .one .dead, .one .dead, .one .dead, .one .dead, .one .dead, .one .dead, .one .dead, .one .dead, .one .dead, .one .dead, .one .dead, .one .dead, .one .dead, .one .dead, .one .dead, .one .dead, .one .dead, .one .dead, .one .dead, .one .dead, .one .dead, .one .dead, .one .dead, .one .dead, .one .dead, .one .dead, .one .dead, .one .dead, .one .dead, .one .dead, .one .dead, .one .dead, .one .dead, .one .dead, .one .dead, .one .dead, .one .dead, .one .dead, .one .dead, .one .dead, .one .dead, .one .dead, .one .dead, .one .dead, .one .dead, .one .dead, .one .dead, .one .dead, .one .dead, .one .dead, .one .dead, .one .dead, .one .dead, .one .dead, .one .dead, .one .dead, .one .dead, .one .dead, .one .dead, .one .dead, .one .dead, .one .dead, .one .dead, .one .dead, .one .dead, .one .dead, .one .dead, .one .dead, .one .dead, .one .dead, .one .dead, .one .dead, .one .dead, .one .dead, .one .dead, .one .dead, .one .dead], [(12, ⟨false, [.own (.sl 1 ((pa :: pb :: pr).map dInt))]⟩)]⟩) (17) ?_ fun μ st hI => ?_
    · refine ⟨0, by simp, by simp, ?_⟩
      exact Can.to (by repeat first | exact LessT.nil | refine LessT.drop ?_ | refine LessT.keep ?_ | refine LessT.eq (by simp) ?_) (by repeat first | exact .nil | refine .cons rfl rfl ?_)
    · obtain ⟨i, hyp, rfl, hcan⟩ := hI
      refine TC.can hcan ?_
      clear hcan
      refine TC.seq ?_
      refine TC.seq ?_
      -- region 5
      refine TC.region ?_
      refine TL.valE rfl (Val.move 1 rfl rfl) (by simp only [St.put, List.set_cons_succ, List.set_cons_zero]; rfl) ?_
      refine TL.valE rfl (Val.leq rfl rfl rfl) (by simp only [St.put, List.set_cons_succ, List.set_cons_zero]; rfl) ?_
      refine TL.nil ?_
      show TC _ _ _ _ _ _
      refine TC.cond rfl (fun hb => ?_) (fun hb => ?_)
      · refine TC.skip ?_
        show TC _ _ _ _ _ _
        refine TC.seq ?_
        refine TC.block ?_
        refine TC.seq ?_
        have hi17 : i < 17 := by simp at hb; omega
        -- region 7
        refine TC.region ?_
        refine TL.valE rfl (Val.assign 1 rfl rfl) (by simp only [St.put, List.set_cons_succ, List.set_cons_zero]; rfl) ?_
        refine TL.nil ?_
        show TC _ _ _ _ _ _
        refine TC.block ?_
        refine TC.loop (fun μ st => ∃ k : Nat, (k ≤ i) ∧ μ = i - k ∧ Can st ⟨[.one .dead, .one .dead, .one .dead, .one (.c (.ref ⟨12, [], 0⟩)), I (i + 1), I (k + 1), .one .dead, .one .dead, .one .dead, .one .dead, .one .dead, .one .dead, .one .dead, .one .dead, .one .dead, .one .dead, .one .dead, .one .dead, .one .dead, .one .dead, .one .dead, .one .dead, .one .dead, .one .dead, .one .dead, .one .dead, .one .dead, .one .dead, .one .dead, .one .dead, .one .dead, .one .dead, .one .dead, .one .dead, .one .dead, .one .dead, .one .dead, .one .dead, .one .dead, .one .dead, .one .dead, .one .dead, .one .dead, .one .dead, .one .dead, .one .dead, .one .dead, .one .dead, .one .dead, .one .dead, .one .dead, .one .dead, .one .dead, .one .dead, .one .dead, .one .dead, .one .dead, .one .dead, .one .dead, .one .dead, .one .dead, .one .dead, .one .dead, .one .dead, .one .dead, .one .dead, .one .dead, .one .dead, .one .dead, .one .dead, .one .dead, .one .dead, .one .dead, .one .dead, .one .dead, .one .dead, .one .dead, .one .dead, .one .dead, .one .dead, .one .dead, .one .dead, .one .dead], [(12, ⟨false, [.own (.sl 1 ((pa :: pb :: pr).map dInt))]⟩)]⟩) (i) ?_ fun μ st hI => ?_
        · refine ⟨0, by simp, by simp, ?_⟩
          exact Can.to (by repeat first | exact LessT.nil | refine LessT.drop ?_ | refine LessT.keep ?_ | refine LessT.eq (by simp) ?_) (by repeat first | exact .nil | refine .cons rfl rfl ?_)
        · obtain ⟨k, hypk, rfl, hcan⟩ := hI
          refine TC.can hcan ?_
          clear hcan
          refine TC.seq ?_
          refine TC.seq ?_
          -- region 8
          refine TC.region ?_
          refine TL.valE rfl (Val.move 1 rfl rfl) (by simp only [St.put, List.set_cons_succ, List.set_cons_zero]; rfl) ?_
          refine TL.valE rfl (Val.move 1 rfl rfl) (by simp only [St.put, List.set_cons_succ, List.set_cons_zero]; rfl) ?_
          refine TL.valE rfl (Val.lss rfl rfl rfl) (by simp only [St.put, List.set_cons_succ, List.set_cons_zero]; rfl) ?_
          refine TL.nil ?_
          show TC _ _ _ _ _ _
          refine TC.cond rfl (fun hb => ?_) (fun hb => ?_)
          · refine TC.skip ?_
            show TC _ _ _ _ _ _
            refine TC.seq ?_
            refine TC.block ?_
            refine TC.seq ?_
            have hik : k < i := by simp at hb; omega
            have ha1 := actNames_ne hi17 hik
            have ho1 := fun h => opNames_ne (i := i) (k := k) h hik
            have he1 := fun h => exitNames_ne (i := i) (k := k) h hik
            -- region 10
            refine TC.region ?_
            refine TL.valE rfl (Val.move 1 rfl rfl) (by simp only [St.put, List.set_cons_succ, List.set_cons_zero]; rfl) ?_
            refine TL.callF (yes_none rfl) rfl rfl rfl rfl rfl rfl ((impl_ActName_f (i + 1)).k) (by repeat first | exact .nil | refine Snaps.cons (.ro _) ?_ | refine Snaps.cons (.aggRo rfl) ?_ | refine Snaps.cons (.cptr _) ?_ | refine Snaps.cons (.fn _) ?_ | refine Snaps.cons (.ownRef rfl (by first | assumption | exact whole_map _ _ (fun w c hc => by simp only [D.row, List.mem_cons, List.not_mem_nil, or_false] at hc; subst hc; exact .v _))) ?_ | refine Snaps.cons (.aggR (by repeat first | exact .nil | refine SnapCs.cons (.ro _) ?_ | refine SnapCs.cons (.ref rfl (by first | assumption | exact whole_map _ _ (fun w c hc => by simp only [D.row, List.mem_cons, List.not_mem_nil, or_false] at hc; subst hc; exact .v _))) ?_)) ?_) rfl (by simp only [St.put, List.set_cons_succ, List.set_cons_zero]; rfl) ?_
            refine TL.valE rfl (Val.move 1 rfl rfl) (by simp only [St.put, List.set_cons_succ, List.set_cons_zero]; rfl) ?_
            refine TL.callF (yes_none rfl) rfl rfl rfl rfl rfl rfl ((impl_ActName_f (k + 1)).k) (by repeat first | exact .nil | refine Snaps.cons (.ro _) ?_ | refine Snaps.cons (.aggRo rfl) ?_ | refine Snaps.cons (.cptr _) ?_ | refine Snaps.cons (.fn _) ?_ | refine Snaps.cons (.ownRef rfl (by first | assumption | exact whole_map _ _ (fun w c hc => by simp only [D.row, List.mem_cons, List.not_mem_nil, or_false] at hc; subst hc; exact .v _))) ?_ | refine Snaps.cons (.aggR (by repeat first | exact .nil | refine SnapCs.cons (.ro _) ?_ | refine SnapCs.cons (.ref rfl (by first | assumption | exact whole_map _ _ (fun w c hc => by simp only [D.row, List.mem_cons, List.not_mem_nil, or_false] at hc; subst hc; exact .v _))) ?_)) ?_) rfl (by simp only [St.put, List.set_cons_succ, List.set_cons_zero]; rfl) ?_
            refine TL.valE rfl (by exact Val.cast (Val.eqlS rfl rfl rfl) (congrArg (fun z : Bool => (B z : TS)) ha1)) (by simp only [St.put, List.set_cons_succ, List.set_cons_zero]; rfl) ?_
            refine TL.valE rfl (Val.move 1 rfl rfl) (by simp only [St.put, List.set_cons_succ, List.set_cons_zero]; rfl) ?_
            refine TL.guardE rfl rfl rfl (Val.move 1 rfl rfl) (by simp only [St.put, List.set_cons_succ, List.set_cons_zero]; rfl) ?_
            refine TL.guardE rfl rfl rfl (Val.leq rfl rfl rfl) (by simp only [St.put, List.set_cons_succ, List.set_cons_zero]; rfl) ?_
            refine TL.guardE rfl rfl rfl (Val.move 1 rfl rfl) (by simp only [St.put, List.set_cons_succ, List.set_cons_zero]; rfl) ?_
            refine TL.splitG 8 rfl (fun hg8 => ?_) (fun hg8 => ?_)
            · refine TL.guardE rfl rfl hg8 (Val.move 1 rfl rfl) (by simp only [St.put, List.set_cons_succ, List.set_cons_zero]; rfl) ?_
              refine TL.callF (yes_some rfl rfl hg8) rfl rfl rfl rfl rfl rfl ((impl_OpName_f (i + 1)).k) (by repeat first | exact .nil | refine Snaps.cons (.ro _) ?_ | refine Snaps.cons (.aggRo rfl) ?_ | refine Snaps.cons (.cptr _) ?_ | refine Snaps.cons (.fn _) ?_ | refine Snaps.cons (.ownRef rfl (by first | assumption | exact whole_map _ _ (fun w c hc => by simp only [D.row, List.mem_cons, List.not_mem_nil, or_false] at hc; subst hc; exact .v _))) ?_ | refine Snaps.cons (.aggR (by repeat first | exact .nil | refine SnapCs.cons (.ro _) ?_ | refine SnapCs.cons (.ref rfl (by first | assumption | exact whole_map _ _ (fun w c hc => by simp only [D.row, List.mem_cons, List.not_mem_nil, or_false] at hc; subst hc; exact .v _))) ?_)) ?_) rfl (by simp only [St.put, List.set_cons_succ, List.set_cons_zero]; rfl) ?_
              refine TL.guardE rfl rfl hg8 (Val.move 1 rfl rfl) (by simp only [St.put, List.set_cons_succ, List.set_cons_zero]; rfl) ?_
              refine TL.callF (yes_some rfl rfl hg8) rfl rfl rfl rfl rfl rfl ((impl_OpName_f (k + 1)).k) (by repeat first | exact .nil | refine Snaps.cons (.ro _) ?_ | refine Snaps.cons (.aggRo rfl) ?_ | refine Snaps.cons (.cptr _) ?_ | refine Snaps.cons (.fn _) ?_ | refine Snaps.cons (.ownRef rfl (by first | assumption | exact whole_map _ _ (fun w c hc => by simp only [D.row, List.mem_cons, List.not_mem_nil, or_false] at hc; subst hc; exact .v _))) ?_ | refine Snaps.cons (.aggR (by repeat first | exact .nil | refine SnapCs.cons (.ro _) ?_ | refine SnapCs.cons (.ref rfl (by first | assumption | exact whole_map _ _ (fun w c hc => by simp only [D.row, List.mem_cons, List.not_mem_nil, or_false] at hc; subst hc; exact .v _))) ?_)) ?_) rfl (by simp only [St.put, List.set_cons_succ, List.set_cons_zero]; rfl) ?_
              refine TL.guardE rfl rfl hg8 (by exact Val.cast (Val.eqlS rfl rfl rfl) (congrArg (fun z : Bool => (B z : TS)) (ho1 (by simp at hg8; omega)))) (by simp only [St.put, List.set_cons_succ, List.set_cons_zero]; rfl) ?_
              refine TL.guardE rfl rfl rfl (Val.pickT rfl rfl hg8 rfl) (by simp only [St.put, List.set_cons_succ, List.set_cons_zero]; rfl) ?_
              refine TL.valE rfl (Val.pickF rfl rfl rfl rfl) (by simp only [St.put, List.set_cons_succ, List.set_cons_zero]; rfl) ?_
              refine TL.valE rfl (Val.move 1 rfl rfl) (by simp only [St.put, List.set_cons_succ, List.set_cons_zero]; rfl) ?_
              refine TL.guardE rfl rfl rfl (Val.move 1 rfl rfl) (by simp only [St.put, List.set_cons_succ, List.set_cons_zero]; rfl) ?_
              refine TL.guardE rfl rfl rfl (Val.leq rfl rfl rfl) (by simp only [St.put, List.set_cons_succ, List.set_cons_zero]; rfl) ?_
              refine TL.guardE rfl rfl rfl (Val.move 1 rfl rfl) (by simp only [St.put, List.set_cons_succ, List.set_cons_zero]; rfl) ?_
              refine TL.splitG 19 rfl (fun hg19 => ?_) (fun hg19 => ?_)
              · refine TL.guardE rfl rfl hg19 (Val.move 1 rfl rfl) (by simp only [St.put, List.set_cons_succ, List.set_cons_zero]; rfl) ?_
                refine TL.callF (yes_some rfl rfl hg19) rfl rfl rfl rfl rfl rfl ((impl_ExitName_f (i + 1)).k) (by repeat first | exact .nil | refine Snaps.cons (.ro _) ?_ | refine Snaps.cons (.aggRo rfl) ?_ | refine Snaps.cons (.cptr _) ?_ | refine Snaps.cons (.fn _) ?_ | refine Snaps.cons (.ownRef rfl (by first | assumption | exact whole_map _ _ (fun w c hc => by simp only [D.row, List.mem_cons, List.not_mem_nil, or_false] at hc; subst hc; exact .v _))) ?_ | refine Snaps.cons (.aggR (by repeat first | exact .nil | refine SnapCs.cons (.ro _) ?_ | refine SnapCs.cons (.ref rfl (by first | assumption | exact whole_map _ _ (fun w c hc => by simp only [D.row, List.mem_cons, List.not_mem_nil, or_false] at hc; subst hc; exact .v _))) ?_)) ?_) rfl (by simp only [St.put, List.set_cons_succ, List.set_cons_zero]; rfl) ?_
                refine TL.guardE rfl rfl hg19 (Val.move 1 rfl rfl) (by simp only [St.put, List.set_cons_succ, List.set_cons_zero]; rfl) ?_
                refine TL.callF (yes_some rfl rfl hg19) rfl rfl rfl rfl rfl rfl ((impl_ExitName_f (k + 1)).k) (by repeat first | exact .nil | refine Snaps.cons (.ro _) ?_ | refine Snaps.cons (.aggRo rfl) ?_ | refine Snaps.cons (.cptr _) ?_ | refine Snaps.cons (.fn _) ?_ | refine Snaps.cons (.ownRef rfl (by first | assumption | exact whole_map _ _ (fun w c hc => by simp only [D.row, List.mem_cons, List.not_mem_nil, or_false] at hc; subst hc; exact .v _))) ?_ | refine Snaps.cons (.aggR (by repeat first | exact .nil | refine SnapCs.cons (.ro _) ?_ | refine SnapCs.cons (.ref rfl (by first | assumption | exact whole_map _ _ (fun w c hc => by simp only [D.row, List.mem_cons, List.not_mem_nil, or_false] at hc; subst hc; exact .v _))) ?_)) ?_) rfl (by simp only [St.put, List.set_cons_succ, List.set_cons_zero]; rfl) ?_
                refine TL.guardE rfl rfl hg19 (by exact Val.cast (Val.eqlS rfl rfl rfl) (congrArg (fun z : Bool => (B z : TS)) (he1 (by simp at hg19; omega)))) (by simp only [St.put, List.set_cons_succ, List.set_cons_zero]; rfl) ?_
                refine TL.guardE rfl rfl rfl (Val.pickT rfl rfl hg19 rfl) (by simp only [St.put, List.set_cons_succ, List.set_cons_zero]; rfl) ?_
                refine TL.valE rfl (Val.pickF rfl rfl rfl rfl) (by simp only [St.put, List.set_cons_succ, List.set_cons_zero]; rfl) ?_
                refine TL.nil ?_
                show TC _ _ _ _ _ _
                refine TC.cond rfl (fun hb => absurd hb (by simp)) (fun hb => ?_)
                refine TC.skip ?_
                show TC _ _ _ _ _ _
                -- region 9
                refine TC.region ?_
                refine TL.valE rfl (Val.move 1 rfl rfl) (by simp only [St.put, List.set_cons_succ, List.set_cons_zero]; rfl) ?_
                refine TL.valE rfl (Val.add rfl rfl rfl (by first | omega | (simp only [List.length_map]; omega)) (by first | omega | (simp only [List.length_map]; omega))) (by simp only [St.put, List.set_cons_succ, List.set_cons_zero]; rfl) ?_
                refine TL.valE rfl (Val.assign 1 rfl rfl) (by simp only [St.put, List.set_cons_succ, List.set_cons_zero]; rfl) ?_
                refine TL.nil ?_
                first | refine Seq.normal ⟨_, ?_, k + 1, ?_, rfl, ?_⟩ | refine Seq.normal (Q := fun _ _ => True) ⟨_, ?_, k + 1, ?_, rfl, ?_⟩
                · omega
                · omega
                · exact Can.to (by repeat first | exact LessT.nil | refine LessT.drop ?_ | refine LessT.keep ?_ | refine LessT.eq (by simp) ?_) (by repeat first | exact .nil | refine .cons rfl rfl ?_)
              · iterate 5 (refine TL.skip (nope_b rfl rfl hg19) (by simp only [St.put, List.set_cons_succ, List.set_cons_zero]; rfl) ?_)
                refine TL.guardE rfl rfl rfl (Val.pickF rfl rfl hg19 rfl) (by simp only [St.put, List.set_cons_succ, List.set_cons_zero]; rfl) ?_
                refine TL.valE rfl (Val.pickF rfl rfl rfl rfl) (by simp only [St.put, List.set_cons_succ, List.set_cons_zero]; rfl) ?_
                refine TL.nil ?_
                show TC _ _ _ _ _ _
                refine TC.cond rfl (fun hb => absurd hb (by simp)) (fun hb => ?_)
                refine TC.skip ?_
                show TC _ _ _ _ _ _
                -- region 9
                refine TC.region ?_
                refine TL.valE rfl (Val.move 1 rfl rfl) (by simp only [St.put, List.set_cons_succ, List.set_cons_zero]; rfl) ?_
                refine TL.valE rfl (Val.add rfl rfl rfl (by first | omega | (simp only [List.length_map]; omega)) (by first | omega | (simp only [List.length_map]; omega))) (by simp only [St.put, List.set_cons_succ, List.set_cons_zero]; rfl) ?_
                refine TL.valE rfl (Val.assign 1 rfl rfl) (by simp only [St.put, List.set_cons_succ, List.set_cons_zero]; rfl) ?_
                refine TL.nil ?_
                first | refine Seq.normal ⟨_, ?_, k + 1, ?_, rfl, ?_⟩ | refine Seq.normal (Q := fun _ _ => True) ⟨_, ?_, k + 1, ?_, rfl, ?_⟩
                · omega
                · omega
                · exact Can.to (by repeat first | exact LessT.nil | refine LessT.drop ?_ | refine LessT.keep ?_ | refine LessT.eq (by simp) ?_) (by repeat first | exact .nil | refine .cons rfl rfl ?_)
            · iterate 5 (refine TL.skip (nope_b rfl rfl hg8) (by simp only [St.put, List.set_cons_succ, List.set_cons_zero]; rfl) ?_)
              refine TL.guardE rfl rfl rfl (Val.pickF rfl rfl hg8 rfl) (by simp only [St.put, List.set_cons_succ, List.set_cons_zero]; rfl) ?_
              refine TL.valE rfl (Val.pickF rfl rfl rfl rfl) (by simp only [St.put, List.set_cons_succ, List.set_cons_zero]; rfl) ?_
              refine TL.valE rfl (Val.move 1 rfl rfl) (by simp only [St.put, List.set_cons_succ, List.set_cons_zero]; rfl) ?_
              refine TL.guardE rfl rfl rfl (Val.move 1 rfl rfl) (by simp only [St.put, List.set_cons_succ, List.set_cons_zero]; rfl) ?_
              refine TL.guardE rfl rfl rfl (Val.leq rfl rfl rfl) (by simp only [St.put, List.set_cons_succ, List.set_cons_zero]; rfl) ?_
              refine TL.guardE rfl rfl rfl (Val.move 1 rfl rfl) (by simp only [St.put, List.set_cons_succ, List.set_cons_zero]; rfl) ?_
              refine TL.splitG 19 rfl (fun hg19 => ?_) (fun hg19 => ?_)
              · refine TL.guardE rfl rfl hg19 (Val.move 1 rfl rfl) (by simp only [St.put, List.set_cons_succ, List.set_cons_zero]; rfl) ?_
                refine TL.callF (yes_some rfl rfl hg19) rfl rfl rfl rfl rfl rfl ((impl_ExitName_f (i + 1)).k) (by repeat first | exact .nil | refine Snaps.cons (.ro _) ?_ | refine Snaps.cons (.aggRo rfl) ?_ | refine Snaps.cons (.cptr _) ?_ | refine Snaps.cons (.fn _) ?_ | refine Snaps.cons (.ownRef rfl (by first | assumption | exact whole_map _ _ (fun w c hc => by simp only [D.row, List.mem_cons, List.not_mem_nil, or_false] at hc; subst hc; exact .v _))) ?_ | refine Snaps.cons (.aggR (by repeat first | exact .nil | refine SnapCs.cons (.ro _) ?_ | refine SnapCs.cons (.ref rfl (by first | assumption | exact whole_map _ _ (fun w c hc => by simp only [D.row, List.mem_cons, List.not_mem_nil, or_false] at hc; subst hc; exact .v _))) ?_)) ?_) rfl (by simp only [St.put, List.set_cons_succ, List.set_cons_zero]; rfl) ?_
                refine TL.guardE rfl rfl hg19 (Val.move 1 rfl rfl) (by simp only [St.put, List.set_cons_succ, List.set_cons_zero]; rfl) ?_
                refine TL.callF (yes_some rfl rfl hg19) rfl rfl rfl rfl rfl rfl ((impl_ExitName_f (k + 1)).k) (by repeat first | exact .nil | refine Snaps.cons (.ro _) ?_ | refine Snaps.cons (.aggRo rfl) ?_ | refine Snaps.cons (.cptr _) ?_ | refine Snaps.cons (.fn _) ?_ | refine Snaps.cons (.ownRef rfl (by first | assumption | exact whole_map _ _ (fun w c hc => by simp only [D.row, List.mem_cons, List.not_mem_nil, or_false] at hc; subst hc; exact .v _))) ?_ | refine Snaps.cons (.aggR (by repeat first | exact .nil | refine SnapCs.cons (.ro _) ?_ | refine SnapCs.cons (.ref rfl (by first | assumption | exact whole_map _ _ (fun w c hc => by simp only [D.row, List.mem_cons, List.not_mem_nil, or_false] at hc; subst hc; exact .v _))) ?_)) ?_) rfl (by simp only [St.put, List.set_cons_succ, List.set_cons_zero]; rfl) ?_
                refine TL.guardE rfl rfl hg19 (by exact Val.cast (Val.eqlS rfl rfl rfl) (congrArg (fun z : Bool => (B z : TS)) (he1 (by simp at hg19; omega)))) (by simp only [St.put, List.set_cons_succ, List.set_cons_zero]; rfl) ?_
                refine TL.guardE rfl rfl rfl (Val.pickT rfl rfl hg19 rfl) (by simp only [St.put, List.set_cons_succ, List.set_cons_zero]; rfl) ?_
                refine TL.valE rfl (Val.pickF rfl rfl rfl rfl) (by simp only [St.put, List.set_cons_succ, List.set_cons_zero]; rfl) ?_
                refine TL.nil ?_
                show TC _ _ _ _ _ _
                refine TC.cond rfl (fun hb => absurd hb (by simp)) (fun hb => ?_)
                refine TC.skip ?_
                show TC _ _ _ _ _ _
                -- region 9
                refine TC.region ?_
                refine TL.valE rfl (Val.move 1 rfl rfl) (by simp only [St.put, List.set_cons_succ, List.set_cons_zero]; rfl) ?_
                refine TL.valE rfl (Val.add rfl rfl rfl (by first | omega | (simp only [List.length_map]; omega)) (by first | omega | (simp only [List.length_map]; omega))) (by simp only [St.put, List.set_cons_succ, List.set_cons_zero]; rfl) ?_
                refine TL.valE rfl (Val.assign 1 rfl rfl) (by simp only [St.put, List.set_cons_succ, List.set_cons_zero]; rfl) ?_
                refine TL.nil ?_
                first | refine Seq.normal ⟨_, ?_, k + 1, ?_, rfl, ?_⟩ | refine Seq.normal (Q := fun _ _ => True) ⟨_, ?_, k + 1, ?_, rfl, ?_⟩
                · omega
                · omega
                · exact Can.to (by repeat first | exact LessT.nil | refine LessT.drop ?_ | refine LessT.keep ?_ | refine LessT.eq (by simp) ?_) (by repeat first | exact .nil | refine .cons rfl rfl ?_)
              · iterate 5 (refine TL.skip (nope_b rfl rfl hg19) (by simp only [St.put, List.set_cons_succ, List.set_cons_zero]; rfl) ?_)
                refine TL.guardE rfl rfl rfl (Val.pickF rfl rfl hg19 rfl) (by simp only [St.put, List.set_cons_succ, List.set_cons_zero]; rfl) ?_
                refine TL.valE rfl (Val.pickF rfl rfl rfl rfl) (by simp only [St.put, List.set_cons_succ, List.set_cons_zero]; rfl) ?_
                refine TL.nil ?_
                show TC _ _ _ _ _ _
                refine TC.cond rfl (fun hb => absurd hb (by simp)) (fun hb => ?_)
                refine TC.skip ?_
                show TC _ _ _ _ _ _
                -- region 9
                refine TC.region ?_
                refine TL.valE rfl (Val.move 1 rfl rfl) (by simp only [St.put, List.set_cons_succ, List.set_cons_zero]; rfl) ?_
                refine TL.valE rfl (Val.add rfl rfl rfl (by first | omega | (simp only [List.length_map]; omega)) (by first | omega | (simp only [List.length_map]; omega))) (by simp only [St.put, List.set_cons_succ, List.set_cons_zero]; rfl) ?_
                refine TL.valE rfl (Val.assign 1 rfl rfl) (by simp only [St.put, List.set_cons_succ, List.set_cons_zero]; rfl) ?_
                refine TL.nil ?_
                first | refine Seq.normal ⟨_, ?_, k + 1, ?_, rfl, ?_⟩ | refine Seq.normal (Q := fun _ _ => True) ⟨_, ?_, k + 1, ?_, rfl, ?_⟩
                · omega
                · omega
                · exact Can.to (by repeat first | exact LessT.nil | refine LessT.drop ?_ | refine LessT.keep ?_ | refine LessT.eq (by simp) ?_) (by repeat first | exact .nil | refine .cons rfl rfl ?_)
          · refine TC.exit ?_
            -- exit 2
            show TC _ _ _ _ _ _
            -- region 6
            refine TC.region ?_
            refine TL.valE rfl (Val.move 1 rfl rfl) (by simp only [St.put, List.set_cons_succ, List.set_cons_zero]; rfl) ?_
            refine TL.valE rfl (Val.add rfl rfl rfl (by first | omega | (simp only [List.length_map]; omega)) (by first | omega | (simp only [List.length_map]; omega))) (by simp only [St.put, List.set_cons_succ, List.set_cons_zero]; rfl) ?_
            refine TL.valE rfl (Val.assign 1 rfl rfl) (by simp only [St.put, List.set_cons_succ, List.set_cons_zero]; rfl) ?_
            refine TL.nil ?_
            first | refine Seq.normal ⟨_, ?_, i + 1, ?_, rfl, ?_⟩ | refine Seq.normal (Q := fun _ _ => True) ⟨_, ?_, i + 1, ?_, rfl, ?_⟩
            · omega
            · omega
            · exact Can.to (by repeat first | exact LessT.nil | refine LessT.drop ?_ | refine LessT.keep ?_ | refine LessT.eq (by simp) ?_) (by repeat first | exact .nil | refine .cons rfl rfl ?_)
      · refine TC.exit ?_
        -- exit 0
        show TC _ _ _ _ _ _
        refine TC.seq ?_
        have hok := name_ok ha.1 hb2.1
        have hrb := readIns_back hok
        have hrd := impl_ReadIns_f (insLine (⟨1 + pa.tmod 2, pb.tmod 100⟩ : VIns))
        rw [hrb] at hrd
        have hm1 : pa.tmod 2 = pa % 2 := Int.tmod_eq_emod_of_nonneg ha.1
        -- region 12
        refine TC.regionW 11 [(0, false), (1, false), (2, false), (3, false), (4, false), (5, false), (6, false), (7, false), (8, false), (9, false), (10, true), (11, true)] rfl (by decide +kernel) ?_
        refine TW.valE (by decide) rfl (yes_none rfl) (Val.move 1 rfl rfl) (by simp only [St.put, List.set_cons_succ, List.set_cons_zero]; rfl) ?_
        refine TW.valE (by decide) rfl (yes_none rfl) (Val.index rfl rfl rfl rfl rfl rfl (by omega) (by simp)) (by simp only [St.put, List.set_cons_succ, List.set_cons_zero]; rfl) ?_
        refine TW.valE (by decide) rfl (yes_none rfl) (Val.load rfl rfl rfl rfl rfl) (by simp only [St.put, List.set_cons_succ, List.set_cons_zero, valC]; rfl) ?_
        refine TW.valE (by decide) rfl (yes_none rfl) (Val.rem rfl rfl rfl (by decide)) (by simp only [St.put, List.set_cons_succ, List.set_cons_zero]; rfl) ?_
        refine TW.valE (by decide) rfl (yes_none rfl) (Val.add rfl rfl rfl (by omega) (by omega)) (by simp only [St.put, List.set_cons_succ, List.set_cons_zero]; rfl) ?_
        refine TW.valE (by decide) rfl (yes_none rfl) (Val.move 1 rfl rfl) (by simp only [St.put, List.set_cons_succ, List.set_cons_zero]; rfl) ?_
        refine TW.valE (by decide) rfl (yes_none rfl) (Val.index rfl rfl rfl rfl rfl rfl (by omega) (by simp)) (by simp only [St.put, List.set_cons_succ, List.set_cons_zero]; rfl) ?_
        refine TW.valE (by decide) rfl (yes_none rfl) (Val.load rfl rfl rfl rfl rfl) (by simp only [St.put, List.set_cons_succ, List.set_cons_zero, valC]; rfl) ?_
        refine TW.valE (by decide) rfl (yes_none rfl) (Val.rem rfl rfl rfl (by decide)) (by simp only [St.put, List.set_cons_succ, List.set_cons_zero]; rfl) ?_
        refine TW.valE (by decide) rfl (yes_none rfl) (Val.build (parts := [(0, Go.Operand.tmp 53), (1, Go.Operand.tmp 57)]) (place := [(0, 1), (1, 1)]) rfl rfl rfl rfl rfl rfl rfl rfl rfl (by simp [fillC]; rfl)) (by simp only [St.put, List.set_cons_succ, List.set_cons_zero]; rfl) ?_
        refine TW.opM (by decide) rfl (yes_none rfl) fun K hK => OpM.alloc rfl rfl rfl rfl rfl rfl ?_
        simp only [St.fresh, St.kill, St.setRoot, St.put, St.renew, TS.kill, TV.kill, C.kill, Rt.kill, boxC, List.map_cons, List.map_nil, List.filter_cons, List.filter_nil, List.set_cons_succ, List.set_cons_zero, List.contains_cons, List.contains_nil, Nat.reduceBEq, Nat.reduceBNe, St.wrote, hitR, hitP, shapeOf, List.isPrefixOf, List.append_eq, Bool.and_true, Bool.true_and, Bool.and_false, Bool.false_and, List.nil_append, List.cons_append, beq_self_eq_true, bne_self_eq_false, Bool.or_false, Bool.or_true, Bool.not_true, Bool.not_false, Bool.false_eq_true, if_true, if_false, reduceIte, resT, valsD, refsD, refD, nextD, nextsD, cellsD, isSl, List.append_nil]
        refine hK _ ?_
        clear hK K
        refine TW.last rfl (yes_none rfl) fun K hK => ?_
        refine OpT.storeAgg rfl rfl rfl rfl rfl rfl (by simp [St.store1, St.storeAll, St.cellAt, St.isMem, St.root, St.wrote, St.kill, St.setRoot, TS.kill, TV.kill, C.kill, Rt.kill, hitR, hitP, shapeOf, setRow, setAt, rowAt, D.row, D.reRow, List.isPrefixOf]; rfl) ?_
        simp only [St.fresh, St.kill, St.setRoot, St.put, St.renew, TS.kill, TV.kill, C.kill, Rt.kill, boxC, List.map_cons, List.map_nil, List.filter_cons, List.filter_nil, List.set_cons_succ, List.set_cons_zero, List.contains_cons, List.contains_nil, Nat.reduceBEq, Nat.reduceBNe, St.wrote, hitR, hitP, shapeOf, List.isPrefixOf, List.append_eq, Bool.and_true, Bool.true_and, Bool.and_false, Bool.false_and, List.nil_append, List.cons_append, beq_self_eq_true, bne_self_eq_false, Bool.or_false, Bool.or_true, Bool.not_true, Bool.not_false, Bool.false_eq_true, if_true, if_false, reduceIte, resT, valsD, refsD, refD, nextD, nextsD, cellsD, isSl, List.append_nil]
        refine hK _ ?_
        clear hK K
        refine TW.nil ?_
        show TC _ _ _ _ _ _
        refine TC.seq ?_
        -- region 13
        refine TC.region ?_
        refine TL.valE rfl (by first | exact Val.loadCAgg (n := 2) rfl rfl rfl rfl (Nat.le_of_ble_eq_true rfl) | exact Val.loadAgg (n := 2) rfl rfl rfl rfl (by simp [St.cellsAt, St.cellAt, St.root, valC]; rfl) rfl | exact Val.loadAgg (n := 2) rfl rfl rfl rfl rfl rfl) (by simp only [St.put, List.set_cons_succ, List.set_cons_zero, valC, dIns, rIns, D.row, List.take_succ_cons, List.take_zero, List.map_cons, List.map_nil]; rfl) ?_
        refine TL.callF (yes_none rfl) rfl rfl rfl rfl rfl rfl ((impl_InsLine_f (⟨1 + pa.tmod 2, pb.tmod 100⟩ : VIns)).k) (by repeat first | exact .nil | refine Snaps.cons (.ro _) ?_ | refine Snaps.cons (.aggRo rfl) ?_ | refine Snaps.cons (.cptr _) ?_ | refine Snaps.cons (.fn _) ?_ | refine Snaps.cons (.ownRef rfl (by first | assumption | exact whole_map _ _ (fun w c hc => by simp only [D.row, List.mem_cons, List.not_mem_nil, or_false] at hc; subst hc; exact .v _))) ?_ | refine Snaps.cons (.aggR (by repeat first | exact .nil | refine SnapCs.cons (.ro _) ?_ | refine SnapCs.cons (.ref rfl (by first | assumption | exact whole_map _ _ (fun w c hc => by simp only [D.row, List.mem_cons, List.not_mem_nil, or_false] at hc; subst hc; exact .v _))) ?_)) ?_) rfl (by simp only [St.put, List.set_cons_succ, List.set_cons_zero]; rfl) ?_
        refine TL.opK rfl fun K hK => ?_
        refine OpT.callG rfl rfl rfl rfl rfl rfl ((hrd).k) (by repeat first | exact .nil | refine Snaps.cons (.ro _) ?_ | refine Snaps.cons (.aggRo rfl) ?_ | refine Snaps.cons (.cptr _) ?_ | refine Snaps.cons (.fn _) ?_ | refine Snaps.cons (.ownRef rfl (by first | assumption | exact whole_map _ _ (fun w c hc => by simp only [D.row, List.mem_cons, List.not_mem_nil, or_false] at hc; subst hc; exact .v _))) ?_ | refine Snaps.cons (.aggR (by repeat first | exact .nil | refine SnapCs.cons (.ro _) ?_ | refine SnapCs.cons (.ref rfl (by first | assumption | exact whole_map _ _ (fun w c hc => by simp only [D.row, List.mem_cons, List.not_mem_nil, or_false] at hc; subst hc; exact .v _))) ?_)) ?_) rfl ?_ -- 62
        simp only [St.fresh, St.kill, St.setRoot, St.put, St.renew, TS.kill, TV.kill, C.kill, Rt.kill, boxC, List.map_cons, List.map_nil, List.filter_cons, List.filter_nil, List.set_cons_succ, List.set_cons_zero, List.contains_cons, List.contains_nil, Nat.reduceBEq, Nat.reduceBNe, St.wrote, hitR, hitP, shapeOf, List.isPrefixOf, List.append_eq, Bool.and_true, Bool.true_and, Bool.and_false, Bool.false_and, List.nil_append, List.cons_append, beq_self_eq_true, bne_self_eq_false, Bool.or_false, Bool.or_true, Bool.not_true, Bool.not_false, Bool.false_eq_true, if_true, if_false, reduceIte, resT, valsD, refsD, refD, nextD, nextsD, cellsD, isSl, List.append_nil]
        refine hK _ ?_
        clear hK K
        refine TL.valE rfl (Val.move 1 rfl rfl) (by simp only [St.put, List.set_cons_succ, List.set_cons_zero]; rfl) ?_
        refine TL.valE rfl (Val.extract rfl rfl rfl) (by simp only [St.put, List.set_cons_succ, List.set_cons_zero]; rfl) ?_
        refine TL.valE rfl (Val.extract rfl rfl rfl) (by simp only [St.put, List.set_cons_succ, List.set_cons_zero]; rfl) ?_
        refine TL.opK rfl fun K hK => ?_
        refine OpT.alloc rfl rfl rfl rfl rfl rfl ?_ -- 7
        simp only [St.fresh, St.kill, St.setRoot, St.put, St.renew, TS.kill, TV.kill, C.kill, Rt.kill, boxC, List.map_cons, List.map_nil, List.filter_cons, List.filter_nil, List.set_cons_succ, List.set_cons_zero, List.contains_cons, List.contains_nil, Nat.reduceBEq, Nat.reduceBNe, St.wrote, hitR, hitP, shapeOf, List.isPrefixOf, List.append_eq, Bool.and_true, Bool.true_and, Bool.and_false, Bool.false_and, List.nil_append, List.cons_append, beq_self_eq_true, bne_self_eq_false, Bool.or_false, Bool.or_true, Bool.not_true, Bool.not_false, Bool.false_eq_true, if_true, if_false, reduceIte, resT, valsD, refsD, refD, nextD, nextsD, cellsD, isSl, List.append_nil]
        refine hK _ ?_
        clear hK K
        refine TL.opK rfl fun K hK => ?_
        refine OpT.storeAgg rfl rfl rfl rfl rfl rfl (by simp [St.store1, St.storeAll, St.cellAt, St.isMem, St.root, St.wrote, St.kill, St.setRoot, TS.kill, TV.kill, C.kill, Rt.kill, hitR, hitP, shapeOf, setRow, setAt, rowAt, D.row, D.reRow, List.isPrefixOf]; rfl) ?_ -- None
        simp only [St.fresh, St.kill, St.setRoot, St.put, St.renew, TS.kill, TV.kill, C.kill, Rt.kill, boxC, List.map_cons, List.map_nil, List.filter_cons, List.filter_nil, List.set_cons_succ, List.set_cons_zero, List.contains_cons, List.contains_nil, Nat.reduceBEq, Nat.reduceBNe, St.wrote, hitR, hitP, shapeOf, List.isPrefixOf, List.append_eq, Bool.and_true, Bool.true_and, Bool.and_false, Bool.false_and, List.nil_append, List.cons_append, beq_self_eq_true, bne_self_eq_false, Bool.or_false, Bool.or_true, Bool.not_true, Bool.not_false, Bool.false_eq_true, if_true, if_false, reduceIte, resT, valsD, refsD, refD, nextD, nextsD, cellsD, isSl, List.append_nil]
        refine hK _ ?_
        clear hK K
        refine TL.valE rfl (Val.assign 1 rfl rfl) (by simp only [St.put, List.set_cons_succ, List.set_cons_zero]; rfl) ?_
        refine TL.nil ?_
        show TC _ _ _ _ _ _
        refine TC.seq ?_
        -- region 14
        refine TC.region ?_
        refine TL.valE rfl (Val.move 1 rfl rfl) (by simp only [St.put, List.set_cons_succ, List.set_cons_zero]; rfl) ?_
        refine TL.valE rfl (Val.move 1 rfl rfl) (by simp only [St.put, List.set_cons_succ, List.set_cons_zero]; rfl) ?_
        refine TL.guardE rfl rfl rfl (by first | exact Val.loadCAgg (n := 2) rfl rfl rfl rfl (Nat.le_of_ble_eq_true rfl) | exact Val.loadAgg (n := 2) rfl rfl rfl rfl (by simp [St.cellsAt, St.cellAt, St.root, valC]; rfl) rfl | exact Val.loadAgg (n := 2) rfl rfl rfl rfl rfl rfl) (by simp only [St.put, List.set_cons_succ, List.set_cons_zero, valC, dIns, rIns, D.row, List.take_succ_cons, List.take_zero, List.map_cons, List.map_nil]; rfl) ?_
        refine TL.guardE rfl rfl rfl (by first | exact Val.loadCAgg (n := 2) rfl rfl rfl rfl (Nat.le_of_ble_eq_true rfl) | exact Val.loadAgg (n := 2) rfl rfl rfl rfl (by simp [St.cellsAt, St.cellAt, St.root, valC]; rfl) rfl | exact Val.loadAgg (n := 2) rfl rfl rfl rfl rfl rfl) (by simp only [St.put, List.set_cons_succ, List.set_cons_zero, valC, dIns, rIns, D.row, List.take_succ_cons, List.take_zero, List.map_cons, List.map_nil]; rfl) ?_
        refine TL.guardE rfl rfl rfl (by exact Val.cast (Val.eqlA rfl rfl rfl rfl rfl rfl (by kernel_rfl) (by kernel_rfl) rfl) (congrArg (fun z : Bool => (B z : TS)) (show eqVs _ _ = true by simp [eqVs, eqV]))) (by simp only [St.put, List.set_cons_succ, List.set_cons_zero]; rfl) ?_
        refine TL.valE rfl (Val.pickT rfl rfl rfl rfl) (by simp only [St.put, List.set_cons_succ, List.set_cons_zero]; rfl) ?_
        refine TL.valE rfl (Val.move 1 rfl rfl) (by simp only [St.put, List.set_cons_succ, List.set_cons_zero]; rfl) ?_
        refine TL.callF (yes_some rfl rfl rfl) rfl rfl rfl rfl rfl rfl ((impl_ActName_f 18).k) (by repeat first | exact .nil | refine Snaps.cons (.ro _) ?_ | refine Snaps.cons (.aggRo rfl) ?_ | refine Snaps.cons (.cptr _) ?_ | refine Snaps.cons (.fn _) ?_ | refine Snaps.cons (.ownRef rfl (by first | assumption | exact whole_map _ _ (fun w c hc => by simp only [D.row, List.mem_cons, List.not_mem_nil, or_false] at hc; subst hc; exact .v _))) ?_ | refine Snaps.cons (.aggR (by repeat first | exact .nil | refine SnapCs.cons (.ro _) ?_ | refine SnapCs.cons (.ref rfl (by first | assumption | exact whole_map _ _ (fun w c hc => by simp only [D.row, List.mem_cons, List.not_mem_nil, or_false] at hc; subst hc; exact .v _))) ?_)) ?_) rfl (by simp only [St.put, List.set_cons_succ, List.set_cons_zero]; rfl) ?_
        refine TL.guardE rfl rfl rfl (by exact Val.cast (Val.eqlS rfl rfl rfl) (congrArg (fun z : Bool => (B z : TS)) (show ((actName 18).toList == (⟨#[63]⟩ : ByteArray).toList) = true by decide +kernel))) (by simp only [St.put, List.set_cons_succ, List.set_cons_zero]; rfl) ?_
        refine TL.valE rfl (Val.pickT rfl rfl rfl rfl) (by simp only [St.put, List.set_cons_succ, List.set_cons_zero]; rfl) ?_
        refine TL.valE rfl (Val.move 1 rfl rfl) (by simp only [St.put, List.set_cons_succ, List.set_cons_zero]; rfl) ?_
        refine TL.callF (yes_some rfl rfl rfl) rfl rfl rfl rfl rfl rfl ((impl_OpName_f 9).k) (by repeat first | exact .nil | refine Snaps.cons (.ro _) ?_ | refine Snaps.cons (.aggRo rfl) ?_ | refine Snaps.cons (.cptr _) ?_ | refine Snaps.cons (.fn _) ?_ | refine Snaps.cons (.ownRef rfl (by first | assumption | exact whole_map _ _ (fun w c hc => by simp only [D.row, List.mem_cons, List.not_mem_nil, or_false] at hc; subst hc; exact .v _))) ?_ | refine Snaps.cons (.aggR (by repeat first | exact .nil | refine SnapCs.cons (.ro _) ?_ | refine SnapCs.cons (.ref rfl (by first | assumption | exact whole_map _ _ (fun w c hc => by simp only [D.row, List.mem_cons, List.not_mem_nil, or_false] at hc; subst hc; exact .v _))) ?_)) ?_) rfl (by simp only [St.put, List.set_cons_succ, List.set_cons_zero]; rfl) ?_
        refine TL.guardE rfl rfl rfl (by exact Val.cast (Val.eqlS rfl rfl rfl) (congrArg (fun z : Bool => (B z : TS)) (show ((opName 9).toList == (⟨#[63]⟩ : ByteArray).toList) = true by decide +kernel))) (by simp only [St.put, List.set_cons_succ, List.set_cons_zero]; rfl) ?_
        refine TL.valE rfl (Val.pickT rfl rfl rfl rfl) (by simp only [St.put, List.set_cons_succ, List.set_cons_zero]; rfl) ?_
        refine TL.valE rfl (Val.move 1 rfl rfl) (by simp only [St.put, List.set_cons_succ, List.set_cons_zero]; rfl) ?_
        refine TL.callF (yes_some rfl rfl rfl) rfl rfl rfl rfl rfl rfl ((impl_ExitName_f 0).k) (by repeat first | exact .nil | refine Snaps.cons (.ro _) ?_ | refine Snaps.cons (.aggRo rfl) ?_ | refine Snaps.cons (.cptr _) ?_ | refine Snaps.cons (.fn _) ?_ | refine Snaps.cons (.ownRef rfl (by first | assumption | exact whole_map _ _ (fun w c hc => by simp only [D.row, List.mem_cons, List.not_mem_nil, or_false] at hc; subst hc; exact .v _))) ?_ | refine Snaps.cons (.aggR (by repeat first | exact .nil | refine SnapCs.cons (.ro _) ?_ | refine SnapCs.cons (.ref rfl (by first | assumption | exact whole_map _ _ (fun w c hc => by simp only [D.row, List.mem_cons, List.not_mem_nil, or_false] at hc; subst hc; exact .v _))) ?_)) ?_) rfl (by simp only [St.put, List.set_cons_succ, List.set_cons_zero]; rfl) ?_
        refine TL.guardE rfl rfl rfl (by exact Val.cast (Val.eqlS rfl rfl rfl) (congrArg (fun z : Bool => (B z : TS)) (show ((exitName 0).toList == (⟨#[110, 111, 110, 101]⟩ : ByteArray).toList) = true by decide +kernel))) (by simp only [St.put, List.set_cons_succ, List.set_cons_zero]; rfl) ?_
        refine TL.valE rfl (Val.pickT rfl rfl rfl rfl) (by simp only [St.put, List.set_cons_succ, List.set_cons_zero]; rfl) ?_
        refine TL.valE rfl (Val.assign 1 rfl rfl) (by simp only [St.put, List.set_cons_succ, List.set_cons_zero]; rfl) ?_
        refine TL.nil ?_
        show TC _ _ _ _ _ _
        refine TC.ret ?_
        exact ⟨.inr rfl, [_], [_], _, rfl, by decide, rfl, by simp [refV, refC, valC], rfl, rfl⟩
end Go.Proofs.YtakfcjjmbjagiaaDoor.T

