/- Actions read from a line: the program's walk. PRINTED by gen.py out of spec_readact.py. -/
import Derived.Test.YtfbjcdhphhfpfaaGreatDoorT3p
import Derived.Test.YtfbjcdhphhfpfaaGreatDoorWhp
import Derived.Test.YtfbjcdhphhfpfaaGreatDoorWop
import Derived.Test.YtfbjcdhphhfpfaaGreatDoorWrp
import Derived.Test.YtfbjcdhphhfpfaaGreatDoorWpp
namespace Go.Proofs.YtfbjcdhphhfpfaaGreatDoor.T
open Go
set_option linter.unusedVariables false
set_option linter.unusedSimpArgs false
set_option maxRecDepth 100000
set_option maxHeartbeats 1000000

section
variable {w0 : World} {g0 : Gh} {st : St}
theorem OpM.fields {o : Oper} {Q : St → Prop} {x : Operand} {tys : Array TypeId} {st' : St}
    (ho : o.op = .call { callee := .value (.func 54), args := [x].toArray, argTypes := tys }) {pl : Pl} (hx : T.opd 0 st x = some (.one (.ptr pl)))
    (hpt : st.put o.dst (.one (.tab [⟨pl.k, pl.p, pl.q + 1⟩, ⟨pl.k, pl.p, pl.q + 2⟩, ⟨pl.k, pl.p, pl.q + 3⟩, ⟨pl.k, pl.p, pl.q + 4⟩, ⟨pl.k, pl.p, pl.q + 5⟩])) = st') (hq : Q st') : OpM Tryz.prog w0 g0 o st Q := fun a w g hR K hK => by
  rw [run_enter hR ho rfl Tryz.func54 rfl (by decide +kernel) w]
  have h2 := hR.opd hx
  have hargs : ([x].map a.eval).toArray = #[.pointer (some ⟨(g.ad pl.k pl.p).1, (g.ad pl.k pl.p).2 + pl.q, none⟩)] := by
    generalize hv : a.eval x = v at h2
    cases h2 with
    | one _ _ h2 =>
      cases h2 with
      | ptr _ => simp [hv, cellAddr]
  rw [hargs]
  refine ⟨Later.refl w, (fields_calls _ _ w).mono fun e w' ⟨he, k, hw⟩ => ?_⟩
  have hL : Later w w' := by
    subst hw
    refine ⟨rfl, rfl, rfl, ?_, fun b hb => ?_⟩
    · show w.heap.size ≤ (w.heap.push _).size
      simp
    · show (w.heap.push _)[b]? = w.heap[b]?
      rw [Array.getElem?_push, if_neg (by omega)]
  have hR' := hR.later hL
  have hsz : w'.heap.size = w.heap.size + 1 := by
    subst hw
    show (w.heap.push _).size = _
    simp
  refine ⟨_, he, hL, hK _ _ _ _ hq (hpt ▸ hR'.put (.one _ _ ?_) o.dst)⟩
  refine RepT.tab (w := w') (g := g.later w.heap.size w'.heap.size) [⟨pl.k, pl.p, pl.q + 1⟩, ⟨pl.k, pl.p, pl.q + 2⟩, ⟨pl.k, pl.p, pl.q + 3⟩, ⟨pl.k, pl.p, pl.q + 4⟩, ⟨pl.k, pl.p, pl.q + 5⟩] w.heap.size 0 ?_ fun j pl' hj => ?_
  · simp only [Gh.later, if_neg (Nat.lt_irrefl _), hsz]
    rw [if_pos (by omega)]
  · have hc : ∀ i : Nat, w'.cell? ⟨w.heap.size, 0 + i, none⟩ = (#[Value.pointer (some ⟨(g.ad pl.k pl.p).1, (g.ad pl.k pl.p).2 + pl.q + 1, none⟩), .pointer (some ⟨(g.ad pl.k pl.p).1, (g.ad pl.k pl.p).2 + pl.q + 2, none⟩), .pointer (some ⟨(g.ad pl.k pl.p).1, (g.ad pl.k pl.p).2 + pl.q + 3, none⟩), .pointer (some ⟨(g.ad pl.k pl.p).1, (g.ad pl.k pl.p).2 + pl.q + 4, none⟩), .pointer (some ⟨(g.ad pl.k pl.p).1, (g.ad pl.k pl.p).2 + pl.q + 5, none⟩)] : Array Value)[i]? := fun i => by
      subst hw
      rw [Nat.zero_add]
      exact World.cell?_alloc_new (w.drewN k) _ _ _
    rw [hc j]
    match j, hj with
    | 0, hj | 1, hj | 2, hj | 3, hj | 4, hj =>
      simp only [List.getElem?_cons_zero, List.getElem?_cons_succ, Option.some.injEq] at hj
      subst hj
      simp [Gh.later, cellAddr, Nat.add_assoc]
    | j + 5, hj => simp at hj
end
theorem indexByte_f (s : ByteArray) (c : UInt8) (p : Int) (h : Lib.indexByte s.data.toList c = p) : Fun Tryz.prog 55 [S s, V (.int .u8 c.toNat)] (RV (.int .i64 p)) := fun w => by
  have h := FunAt.same (vs := [.string s, .int .u8 c.toNat]) (x := .int .i64 p) rfl (P := Tryz.prog) (f := 55) (w := w)
    ((Any.strings_IndexByte laysIndexByte s c.toNat w).mono fun e w' ⟨he, hw⟩ => ⟨by
      rw [he, ← h]
      simp, hw⟩)
  exact h
theorem impl_ReadAct_f (s : ByteArray) : FunW (TabE) Tryz.prog 34 [S s] (RAct (readAct s)) := by
  refine FunW.of (TabE.keep) Tryz.func34 rfl (by simp [Tryz.ntmps34]) fun w g0 hW => ?_
  simp only [Tryz.ntmps34, List.length_cons, List.length_nil, Nat.reduceAdd, Nat.reduceSub, List.replicate, List.cons_append, List.nil_append]
  obtain ⟨q, hq⟩ : ∃ q, parts s = q := ⟨_, rfl⟩
  refine TC.seq ?_
  refine TC.region ?_
  refine TL.opK rfl fun K hK => ?_
  refine OpT.alloc rfl rfl rfl rfl rfl rfl ?_
  simp only [nrm, Nat.reduceBEq, Nat.reduceBNe, reduceIte]
  refine hK _ ?_
  clear hK K
  refine TL.vE (Val.assign 1 rfl rfl) ?_
  refine TL.nil ?_
  show TC _ _ _ _ _ _
  refine TC.seq ?_
  refine TC.region ?_
  refine TL.vE (Val.move 1 rfl rfl) ?_
  refine TL.opK rfl fun K hK => ?_
  refine OpT.callG rfl rfl rfl rfl rfl rfl ((impl_PartsOf_q hq).k) (by repeat first | exact .nil | refine Snaps.cons (.ro _) ?_ | refine Snaps.cons (.aggRo rfl) ?_ | refine Snaps.cons (.cptr _) ?_ | refine Snaps.cons (.fn _) ?_ | refine Snaps.cons (.ownRef rfl (by first | assumption | exact whole_map _ _ (fun w c hc => by simp only [D.row, List.mem_cons, List.not_mem_nil, or_false] at hc; subst hc; exact .v _))) ?_ | refine Snaps.cons (.aggR (by repeat first | exact .nil | refine SnapCs.cons (.ro _) ?_ | refine SnapCs.cons (.ref rfl (by first | assumption | exact whole_map _ _ (fun w c hc => by simp only [D.row, List.mem_cons, List.not_mem_nil, or_false] at hc; subst hc; exact .v _))) ?_)) ?_) rfl ?_
  simp only [nrm, Nat.reduceBEq, Nat.reduceBNe, reduceIte]
  refine hK _ ?_
  clear hK K
  refine TL.vE (Val.move 1 rfl rfl) ?_
  refine TL.vE (Val.extract rfl rfl rfl) ?_
  refine TL.vE (Val.extract rfl rfl rfl) ?_
  refine TL.vE (Val.assign 1 rfl rfl) ?_
  refine TL.vE (Val.assign 1 rfl rfl) ?_
  refine TL.nil ?_
  show TC _ _ _ _ _ _
  refine TC.seq ?_
  refine TC.seq ?_
  refine TC.region ?_
  refine TL.vE (Val.move 1 rfl rfl) ?_
  refine TL.vE (Val.not rfl rfl) ?_
  refine TL.vE (Val.move 1 rfl rfl) ?_
  refine TL.splitG 2 rfl (fun hg2 => ?_) (fun hg2 => ?_)
  · iterate 3 (refine TL.skip (nope_b rfl rfl hg2) (by simp only [nput]; rfl) ?_)
    refine TL.vE (Val.pickT rfl rfl hg2 rfl) ?_
    refine TL.nil ?_
    show TC _ _ _ _ _ _
    refine TC.cond rfl (fun hb => ?_) (fun hb => absurd hb (by simp))
    refine TC.seq ?_
    have h0 : readAct s = none := readAct_none (by rintro a l e; rw [hq] at e; subst e; first | (simp at hg2; done) | (simp at hb; done) | (simp at hb; omega))
    refine TC.region ?_
    refine TL.vE (Val.build (parts := []) (place := [(0, 1), (1, 1), (2, 1), (3, 1), (4, 1), (5, 1)]) rfl rfl rfl rfl rfl rfl rfl rfl rfl (by simp [fillC]; rfl)) ?_
    refine TL.opK rfl fun K hK => ?_
    refine OpT.storeAgg rfl rfl rfl rfl rfl rfl (by simp [St.store1, St.storeAll, St.cellAt, St.isMem, St.root, St.wrote, St.kill, St.setRoot, TS.kill, TV.kill, C.kill, Rt.kill, hitR, hitP, shapeOf, setRow, setAt, rowAt, D.row, D.reRow, List.isPrefixOf]; rfl) ?_ -- None
    simp only [nrm, Nat.reduceBEq, Nat.reduceBNe, reduceIte]
    refine hK _ ?_
    clear hK K
    refine TL.vE (Val.assign 1 rfl rfl) ?_
    refine TL.nil ?_
    show TC _ _ _ _ _ _
    refine TC.ret ?_
    exact ⟨.inr rfl, [_, _], [_, _], _, rfl, by decide, rfl, by simp [refV, refC, valC], rfl, (by simp only [RAct, h0]; rfl)⟩
  · refine TL.gE rfl hg2 (Val.move 1 rfl rfl) ?_
    refine TL.gE rfl hg2 (by first | exact Val.len rfl rfl rfl rfl | exact Val.lenS rfl rfl rfl) ?_
    refine TL.gE rfl hg2 (Val.eql rfl rfl rfl) ?_
    refine TL.vE (Val.pickF rfl rfl hg2 rfl) ?_
    refine TL.nil ?_
    show TC _ _ _ _ _ _
    refine TC.cond rfl (fun hb => ?_) (fun hb => ?_)
    · have hk24 := hb
      refine TC.seq ?_
      have h0 : readAct s = none := readAct_none (by rintro a l e; rw [hq] at e; subst e; first | (simp at hg2; done) | (simp at hb; done) | (simp at hb; omega))
      refine TC.region ?_
      refine TL.vE (Val.build (parts := []) (place := [(0, 1), (1, 1), (2, 1), (3, 1), (4, 1), (5, 1)]) rfl rfl rfl rfl rfl rfl rfl rfl rfl (by simp [fillC]; rfl)) ?_
      refine TL.opK rfl fun K hK => ?_
      refine OpT.storeAgg rfl rfl rfl rfl rfl rfl (by simp [St.store1, St.storeAll, St.cellAt, St.isMem, St.root, St.wrote, St.kill, St.setRoot, TS.kill, TV.kill, C.kill, Rt.kill, hitR, hitP, shapeOf, setRow, setAt, rowAt, D.row, D.reRow, List.isPrefixOf]; rfl) ?_ -- None
      simp only [nrm, Nat.reduceBEq, Nat.reduceBNe, reduceIte]
      refine hK _ ?_
      clear hK K
      refine TL.vE (Val.assign 1 rfl rfl) ?_
      refine TL.nil ?_
      show TC _ _ _ _ _ _
      refine TC.ret ?_
      exact ⟨.inr rfl, [_, _], [_, _], _, rfl, by decide, rfl, by simp [refV, refC, valC], rfl, (by simp only [RAct, h0]; rfl)⟩
    have hk24 := hb
    refine TC.skip ?_
    show TC _ _ _ _ _ _
    refine TC.seq ?_
    refine TC.seq ?_
    obtain ⟨a, l, rfl⟩ : ∃ a l, q = some (a :: l) := by rcases q with _ | (_ | ⟨a, l⟩) <;> simp at hb hg2 <;> exact ⟨_, _, rfl⟩
    have hps := parts_size hq
    have hpw := (parts_word hq).2
    have hpl := (parts_word hq).1
    have hin := actTo_in a 17
    have hr2 := readAct_two hq
    have hlw : ∀ v ∈ l, ∀ c ∈ v.data.toList, c ≠ 32 := fun v hv => (hpw v (List.mem_cons_of_mem _ hv)).2
    have hus := uses_size
    refine TC.region ?_
    refine TL.vE (Val.assign 1 rfl rfl) ?_
    refine TL.nil ?_
    show TC _ _ _ _ _ _
    refine TC.block ?_
    refine TC.loop (fun μ st => ∃ k : Nat, (k ≤ 17 ∧ ∀ j : Nat, j < k → ¬ (actName ((j : Int) + 1) = a ∧ l.length = (actUses ((j : Int) + 1)).size)) ∧ μ = 17 - k ∧ Can st ⟨[.one .dead, .one .dead, .one (.ptr ⟨2, [], 0⟩), .one .dead, .one (.c (.ref ⟨15, [], 0⟩)), .one .dead, I (k + 1), .one .dead, .one .dead, .one .dead, .one .dead, .one .dead, .one .dead, .one .dead, .one .dead, .one .dead, .one .dead, .one .dead, .one .dead, .one .dead, .one .dead, .one .dead, .one .dead, .one .dead, .one .dead, .one .dead, .one .dead, .one .dead, .one .dead, .one .dead, .one .dead, .one .dead, .one .dead, .one .dead, .one .dead, .one .dead, .one .dead, .one .dead, .one .dead, .one .dead, .one .dead, .one .dead, .one .dead, .one .dead, .one .dead, .one .dead, .one .dead, .one .dead, .one .dead, .one .dead, .one .dead, .one .dead, .one .dead, .one .dead, .one .dead, .one .dead, .one .dead, .one .dead, .one .dead, .one .dead, .one .dead, .one .dead, .one .dead, .one .dead, .one .dead, .one .dead, .one .dead, .one .dead, .one .dead, .one .dead, .one .dead, .one .dead, .one .dead, .one .dead, .one .dead, .one .dead], [(15, ⟨false, [.own (.sl 1 ((a :: l).map fun w => .v (.string w)))]⟩), (2, ⟨true, [.own (.v (.int .i64 (⟨0, 0, 0, 0, 0, 0⟩ : VAct).Kind)), .own (.v (.int .i64 (⟨0, 0, 0, 0, 0, 0⟩ : VAct).M)), .own (.v (.int .i64 (⟨0, 0, 0, 0, 0, 0⟩ : VAct).G)), .own (.v (.int .i64 (⟨0, 0, 0, 0, 0, 0⟩ : VAct).X)), .own (.v (.int .i64 (⟨0, 0, 0, 0, 0, 0⟩ : VAct).Y)), .own (.v (.int .i64 (⟨0, 0, 0, 0, 0, 0⟩ : VAct).Z))]⟩)]⟩) (17) ?_ fun μ st hI => ?_
    · refine ⟨0, ⟨by omega, fun j hj => absurd hj (by omega)⟩, by simp, ?_⟩
      exact Can.too (.cons rfl rfl (.cons rfl rfl .nil))
    · obtain ⟨k, hyp, rfl, hcan⟩ := hI
      refine TC.can hcan ?_
      clear hcan
      refine TC.seq ?_
      refine TC.seq ?_
      refine TC.region ?_
      refine TL.vE (Val.move 1 rfl rfl) ?_
      refine TL.vE (Val.leq rfl rfl rfl) ?_
      refine TL.nil ?_
      show TC _ _ _ _ _ _
      refine TC.cond rfl (fun hb => ?_) (fun hb => ?_)
      · have hk27 := hb
        refine TC.skip ?_
        show TC _ _ _ _ _ _
        refine TC.seq ?_
        refine TC.block ?_
        refine TC.seq ?_
        have hk1 : k + 1 ≤ 17 := by simp at hb; omega
        have hu5 := hus ((k : Int) + 1)
        refine TC.region ?_
        refine TL.vE (Val.move 1 rfl rfl) ?_
        refine TL.cF ((impl_ActUses_f (k + 1)).k) ?_
        refine TL.vE (Val.assign 1 rfl rfl) ?_
        refine TL.nil ?_
        show TC _ _ _ _ _ _
        refine TC.seq ?_
        refine TC.seq ?_
        refine TC.regionQ rfl (by decide +kernel) ?_
        refine TQ.vE (Val.move 1 rfl rfl) ?_
        refine TQ.vE (by exact Val.index rfl rfl rfl rfl rfl rfl (by omega) (by simp)) ?_
        refine TQ.valE rfl (by first | exact Val.load rfl rfl rfl rfl rfl | exact Val.loadC rfl rfl rfl) (by simp only [nput, valC]; rfl) ?_
        refine TQ.vE (Val.move 1 rfl rfl) ?_
        refine TQ.callF (yes_none rfl) rfl rfl rfl rfl rfl rfl ((impl_ActName_f (k + 1)).k) (by repeat first | exact .nil | refine Snaps.cons (.ro _) ?_ | refine Snaps.cons (.aggRo rfl) ?_ | refine Snaps.cons (.cptr _) ?_ | refine Snaps.cons (.fn _) ?_ | refine Snaps.cons (.ownRef rfl (by first | assumption | exact whole_map _ _ (fun w c hc => by simp only [D.row, List.mem_cons, List.not_mem_nil, or_false] at hc; subst hc; exact .v _))) ?_ | refine Snaps.cons (.aggR (by repeat first | exact .nil | refine SnapCs.cons (.ro _) ?_ | refine SnapCs.cons (.ref rfl (by first | assumption | exact whole_map _ _ (fun w c hc => by simp only [D.row, List.mem_cons, List.not_mem_nil, or_false] at hc; subst hc; exact .v _))) ?_)) ?_) rfl (by simp only [nput]; rfl) ?_
        refine TQ.vE (Val.neqS rfl rfl rfl) ?_
        refine TQ.vE (Val.move 1 rfl rfl) ?_
        refine TQ.splitG 6 rfl (fun hg6 => ?_) (fun hg6 => ?_)
        · iterate 6 (refine TQ.skip (nope_b rfl rfl hg6) (by simp only [nput]; rfl) ?_)
          refine TQ.vE (Val.pickT rfl rfl hg6 rfl) ?_
          refine TQ.nil ?_
          show TC _ _ _ _ _ _
          refine TC.cond rfl (fun hb => ?_) (fun hb => absurd hb (by simp))
          refine TC.exit ?_
          show TC _ _ _ _ _ _
          refine TC.region ?_
          refine TL.vE (Val.move 1 rfl rfl) ?_
          refine TL.vE (Val.addO rfl rfl rfl) ?_
          refine TL.vE (Val.assign 1 rfl rfl) ?_
          refine TL.nil ?_
          first | refine Seq.normal ⟨_, ?_, k + 1, ?_, rfl, ?_⟩ | refine Seq.normal (Q := fun _ _ => True) ⟨_, ?_, k + 1, ?_, rfl, ?_⟩
          · omega
          · exact ⟨by omega, fun j hj => by rcases Nat.lt_or_ge j k with h | h; exact hyp.2 j h; obtain rfl : j = k := (by omega); rintro ⟨h1, h2⟩; first | (rw [ba_beq] at hg6; simp [h1] at hg6; done) | (simp at hb; omega)⟩
          · exact Can.too (.cons rfl rfl (.cons rfl rfl .nil))
        · refine TQ.guardE rfl rfl hg6 (Val.move 1 rfl rfl) (by simp only [nput]; rfl) ?_
          refine TQ.guardE rfl rfl hg6 (by first | exact Val.len rfl rfl rfl rfl | exact Val.lenS rfl rfl rfl) (by simp only [nput]; rfl) ?_
          refine TQ.guardE rfl rfl hg6 (Val.move 1 rfl rfl) (by simp only [nput]; rfl) ?_
          refine TQ.guardE rfl rfl hg6 (by first | exact Val.len rfl rfl rfl rfl | exact Val.lenS rfl rfl rfl) (by simp only [nput]; rfl) ?_
          refine TQ.guardE rfl rfl hg6 (Val.addO rfl rfl rfl) (by simp only [nput]; rfl) ?_
          refine TQ.guardE rfl rfl hg6 (Val.neq rfl rfl rfl) (by simp only [nput]; rfl) ?_
          refine TQ.vE (Val.pickF rfl rfl hg6 rfl) ?_
          refine TQ.nil ?_
          show TC _ _ _ _ _ _
          refine TC.cond rfl (fun hb => ?_) (fun hb => ?_)
          · have hk45 := hb
            refine TC.exit ?_
            show TC _ _ _ _ _ _
            refine TC.region ?_
            refine TL.vE (Val.move 1 rfl rfl) ?_
            refine TL.vE (Val.addO rfl rfl rfl) ?_
            refine TL.vE (Val.assign 1 rfl rfl) ?_
            refine TL.nil ?_
            first | refine Seq.normal ⟨_, ?_, k + 1, ?_, rfl, ?_⟩ | refine Seq.normal (Q := fun _ _ => True) ⟨_, ?_, k + 1, ?_, rfl, ?_⟩
            · omega
            · exact ⟨by omega, fun j hj => by rcases Nat.lt_or_ge j k with h | h; exact hyp.2 j h; obtain rfl : j = k := (by omega); rintro ⟨h1, h2⟩; first | (rw [ba_beq] at hg6; simp [h1] at hg6; done) | (simp at hb; omega)⟩
            · exact Can.too (.cons rfl rfl (.cons rfl rfl .nil))
          have hk45 := hb
          refine TC.skip ?_
          show TC _ _ _ _ _ _
          refine TC.seq ?_
          have hfo : actName ((k : Int) + 1) = a ∧ l.length = (actUses ((k : Int) + 1)).size := by rw [ba_beq] at hg6; simp at hg6 hb; exact ⟨hg6.symm, by omega⟩
          have hop := actTo_name (op := (k : Int) + 1) (by omega) (by omega) hfo.1
          rw [hop] at hr2
          refine TC.region ?_
          refine TL.vE (Val.move 1 rfl rfl) ?_
          refine TL.vE (Val.build (parts := [(0, (Go.Operand.tmp 46))]) (place := [(0, 1), (1, 1), (2, 1), (3, 1), (4, 1), (5, 1)]) rfl rfl rfl rfl rfl rfl rfl rfl rfl (by simp [fillC]; rfl)) ?_
          refine TL.opK rfl fun K hK => ?_
          refine OpT.alloc rfl rfl rfl rfl rfl rfl ?_
          simp only [nrm, Nat.reduceBEq, Nat.reduceBNe, reduceIte]
          refine hK _ ?_
          clear hK K
          refine TL.opK rfl fun K hK => ?_
          refine OpT.storeAgg rfl rfl rfl rfl rfl rfl (by simp [St.store1, St.storeAll, St.cellAt, St.isMem, St.root, St.wrote, St.kill, St.setRoot, TS.kill, TV.kill, C.kill, Rt.kill, hitR, hitP, shapeOf, setRow, setAt, rowAt, D.row, D.reRow, List.isPrefixOf]; rfl) ?_ -- None
          simp only [nrm, Nat.reduceBEq, Nat.reduceBNe, reduceIte]
          refine hK _ ?_
          clear hK K
          refine TL.nil ?_
          show TC _ _ _ _ _ _
          refine TC.seq ?_
          refine TC.seq ?_
          refine TC.region ?_
          refine TL.vE (Val.move 1 rfl rfl) ?_
          refine TL.opK rfl fun K hK => ?_
          refine OpT.sliceFz (k := 15) (sz := 1) (ds := (a :: l).map fun w => .v (.string w)) rfl rfl rfl rfl (whole_map _ _ (fun w c hc => by simp only [D.row, List.mem_cons, List.not_mem_nil, or_false] at hc; subst hc; exact .v _)) rfl rfl rfl (by omega) (by simp) (by decide) ?_
          simp only [nrm, Nat.reduceBEq, Nat.reduceBNe, reduceIte]
          refine hK _ ?_
          clear hK K
          refine TL.vE (by first | exact Val.len rfl rfl rfl rfl | exact Val.lenS rfl rfl rfl) ?_
          refine TL.vE (Val.move 1 rfl rfl) ?_
          refine TL.nil ?_
          show TC _ _ _ _ _ _
          refine TC.block ?_
          refine TC.loop (fun μ st => ∃ i : Nat, (i ≤ l.length ∧ ((l.take i).all fun v => (readDec v).isSome) = true) ∧ μ = l.length - i ∧ Can st ⟨[.one .dead, .one .dead, .one (.ptr ⟨2, [], 0⟩), .one .dead, .one .dead, .one .dead, .one .dead, S (actUses ((k : Int) + 1)), .one (.ptr ⟨8, [], 0⟩), .one .dead, .one .dead, .one .dead, .one .dead, .one .dead, .one .dead, .one .dead, .one .dead, .one .dead, .one .dead, .one .dead, .one .dead, .one .dead, .one .dead, .one .dead, .one .dead, .one .dead, .one .dead, .one .dead, .one .dead, .one .dead, .one .dead, .one .dead, .one .dead, .one .dead, .one .dead, .one .dead, .one .dead, .one .dead, .one .dead, .one .dead, .one .dead, .one .dead, .one .dead, .one .dead, .one .dead, .one .dead, .one .dead, .one .dead, .one .dead, L 1 (l.map fun w => .v (.string w)), I (l.map (fun w => .v (.string w) : ByteArray → D)).length, I i, .one .dead, .one .dead, .one .dead, .one .dead, .one .dead, .one .dead, .one .dead, .one .dead, .one .dead, .one .dead, .one .dead, .one .dead, .one .dead, .one .dead, .one .dead, .one .dead, .one .dead, .one .dead, .one .dead, .one .dead, .one .dead, .one .dead, .one .dead, .one .dead], [(8, ⟨true, [.own (.v (.int .i64 (fillTo ((k : Int) + 1) l i).Kind)), .own (.v (.int .i64 (fillTo ((k : Int) + 1) l i).M)), .own (.v (.int .i64 (fillTo ((k : Int) + 1) l i).G)), .own (.v (.int .i64 (fillTo ((k : Int) + 1) l i).X)), .own (.v (.int .i64 (fillTo ((k : Int) + 1) l i).Y)), .own (.v (.int .i64 (fillTo ((k : Int) + 1) l i).Z))]⟩), (2, ⟨true, [.own (.v (.int .i64 (⟨0, 0, 0, 0, 0, 0⟩ : VAct).Kind)), .own (.v (.int .i64 (⟨0, 0, 0, 0, 0, 0⟩ : VAct).M)), .own (.v (.int .i64 (⟨0, 0, 0, 0, 0, 0⟩ : VAct).G)), .own (.v (.int .i64 (⟨0, 0, 0, 0, 0, 0⟩ : VAct).X)), .own (.v (.int .i64 (⟨0, 0, 0, 0, 0, 0⟩ : VAct).Y)), .own (.v (.int .i64 (⟨0, 0, 0, 0, 0, 0⟩ : VAct).Z))]⟩)]⟩) (l.length) ?_ fun μ st hI => ?_
          · refine ⟨0, ⟨by omega, rfl⟩, by simp, ?_⟩
            exact Can.too (.cons rfl rfl (.cons rfl rfl .nil))
          · obtain ⟨i, hypi, rfl, hcan⟩ := hI
            refine TC.can hcan ?_
            clear hcan
            refine TC.seq ?_
            refine TC.region ?_
            refine TL.vE (Val.lss rfl rfl rfl) ?_
            refine TL.nil ?_
            show TC _ _ _ _ _ _
            refine TC.seq ?_
            refine TC.cond rfl (fun hb => ?_) (fun hb => ?_)
            · have hk52 := hb
              refine TC.skip ?_
              show TC _ _ _ _ _ _
              refine TC.seq ?_
              refine TC.block ?_
              refine TC.seq ?_
              have hi : i < l.length := by simp at hb; omega
              obtain ⟨x, hx⟩ := at_of (xs := l) (k := i) hi
              obtain ⟨c, hc0⟩ := byte_at (actUses ((k : Int) + 1)) i
              have hc := hc0 (by omega)
              have hft := fillTo_next (l := l) hc.2
              have hnx := numAt_at hx
              have hcl := uses_letter ((k : Int) + 1) c (List.mem_of_getElem? hc.2)
              refine TC.region ?_
              refine TL.vE (Val.move 1 rfl rfl) ?_
              refine TL.vE (by exact Val.indexC (d := .v (.string x)) rfl rfl rfl rfl rfl (by omega) (by simp [hx])) ?_
              refine TL.ld ?_
              refine TL.vE (Val.assign 1 rfl rfl) ?_
              refine TL.vE (Val.assign 1 rfl rfl) ?_
              refine TL.nil ?_
              show TC _ _ _ _ _ _
              refine TC.seq ?_
              refine TC.region ?_
              refine TL.vE (Val.move 1 rfl rfl) ?_
              refine TL.opK rfl fun K hK => ?_
              refine OpT.callG rfl rfl rfl rfl rfl rfl ((impl_ReadDecimal_f x).k) (by repeat first | exact .nil | refine Snaps.cons (.ro _) ?_ | refine Snaps.cons (.aggRo rfl) ?_ | refine Snaps.cons (.cptr _) ?_ | refine Snaps.cons (.fn _) ?_ | refine Snaps.cons (.ownRef rfl (by first | assumption | exact whole_map _ _ (fun w c hc => by simp only [D.row, List.mem_cons, List.not_mem_nil, or_false] at hc; subst hc; exact .v _))) ?_ | refine Snaps.cons (.aggR (by repeat first | exact .nil | refine SnapCs.cons (.ro _) ?_ | refine SnapCs.cons (.ref rfl (by first | assumption | exact whole_map _ _ (fun w c hc => by simp only [D.row, List.mem_cons, List.not_mem_nil, or_false] at hc; subst hc; exact .v _))) ?_)) ?_) rfl ?_
              simp only [nrm, Nat.reduceBEq, Nat.reduceBNe, reduceIte]
              refine hK _ ?_
              clear hK K
              refine TL.vE (Val.move 1 rfl rfl) ?_
              refine TL.vE (Val.extract rfl rfl rfl) ?_
              refine TL.vE (Val.extract rfl rfl rfl) ?_
              refine TL.vE (Val.assign 1 rfl rfl) ?_
              refine TL.vE (Val.assign 1 rfl rfl) ?_
              refine TL.nil ?_
              show TC _ _ _ _ _ _
              refine TC.seq ?_
              refine TC.seq ?_
              refine TC.region ?_
              refine TL.vE (Val.move 1 rfl rfl) ?_
              refine TL.vE (Val.not rfl rfl) ?_
              refine TL.nil ?_
              show TC _ _ _ _ _ _
              refine TC.cond rfl (fun hb => ?_) (fun hb => ?_)
              · have hk62 := hb
                refine TC.seq ?_
                have hal : (l.all fun v => (readDec v).isSome) = false := all_off hx (by simpa using hb)
                have h0 : readAct s = none := by (rw [hr2, if_neg]; rintro ⟨_, _, h3⟩; rw [hal] at h3; cases h3)
                refine TC.region ?_
                refine TL.vE (Val.build (parts := []) (place := [(0, 1), (1, 1), (2, 1), (3, 1), (4, 1), (5, 1)]) rfl rfl rfl rfl rfl rfl rfl rfl rfl (by simp [fillC]; rfl)) ?_
                refine TL.opK rfl fun K hK => ?_
                refine OpT.storeAgg rfl rfl rfl rfl rfl rfl (by simp [St.store1, St.storeAll, St.cellAt, St.isMem, St.root, St.wrote, St.kill, St.setRoot, TS.kill, TV.kill, C.kill, Rt.kill, hitR, hitP, shapeOf, setRow, setAt, rowAt, D.row, D.reRow, List.isPrefixOf]; rfl) ?_ -- None
                simp only [nrm, Nat.reduceBEq, Nat.reduceBNe, reduceIte]
                refine hK _ ?_
                clear hK K
                refine TL.vE (Val.assign 1 rfl rfl) ?_
                refine TL.nil ?_
                show TC _ _ _ _ _ _
                refine TC.ret ?_
                exact ⟨.inr rfl, [_, _], [_, _], _, rfl, by decide, rfl, by simp [refV, refC, valC], rfl, (by simp only [RAct, h0]; rfl)⟩
              have hk62 := hb
              refine TC.skip ?_
              show TC _ _ _ _ _ _
              have hsm : (readDec x).isSome = true := by simpa using hb
              refine TC.regionW 9 [(1, false), (2, false), (7, false), (3, false), (0, true), (4, true), (5, true), (6, true), (8, true), (9, true)] rfl (by decide +kernel) ?_
              refine TW.valE (by decide) rfl (yes_none rfl) (Val.move 1 rfl rfl) (by simp only [nput]; rfl) ?_
              refine TW.valE (by decide) rfl (yes_none rfl) (Val.move 1 rfl rfl) (by simp only [nput]; rfl) ?_
              refine TW.valE (by decide) rfl (yes_none rfl) (Val.move 1 rfl rfl) (by simp only [nput]; rfl) ?_
              refine TW.valE (by decide) rfl (yes_none rfl) (Val.indexS rfl rfl rfl rfl (by omega) hc.1) (by simp only [nput]; rfl) ?_
              rcases hcl with rfl | rfl | rfl | rfl | rfl
              · refine TW.opM (by decide) rfl (yes_none rfl) fun K hK => OpM.fields rfl rfl (by simp only [nput]; rfl) (hK _ ?_)
                clear hK K
                refine TW.opM (by decide) rfl (yes_none rfl) fun K hK => OpM.callF rfl rfl rfl rfl rfl rfl ((indexByte_f ⟨#[109, 103, 120, 121, 122]⟩ 109 0 (by decide +kernel)).k) (by repeat first | exact .nil | refine Snaps.cons (.ro _) ?_) rfl (by simp only [nput]; rfl) (hK _ ?_)
                clear hK K
                refine TW.valE (by decide) rfl (yes_none rfl) (Val.indexTab rfl rfl rfl rfl rfl (by omega) (by decide)) (by simp only [nput]; rfl) ?_
                refine TW.valE (by decide) rfl (yes_none rfl) (Val.loadTab rfl rfl rfl rfl) (by simp only [nput]; rfl) ?_
                refine TW.valE (by decide) rfl (yes_none rfl) (Val.nilPtr rfl rfl) (by simp only [nput]; rfl) ?_
                refine TW.last rfl (yes_none rfl) fun K hK => ?_
                refine OpT.store (z := 1) rfl rfl rfl rfl rfl rfl (by simp [St.store1, St.storeAll, St.cellAt, St.isMem, St.root, St.wrote, St.kill, St.setRoot, TS.kill, TV.kill, C.kill, Rt.kill, hitR, hitP, shapeOf, setRow, setAt, rowAt, D.row, D.reRow, List.isPrefixOf]; rfl) ?_
                simp only [nrm, Nat.reduceBEq, Nat.reduceBNe, reduceIte]
                refine hK _ ?_
                clear hK K
                refine TW.nil ?_
                show TC _ _ _ _ _ _
                refine TC.region ?_
                refine TL.vE (Val.addO rfl rfl rfl) ?_
                refine TL.vE (Val.move 1 rfl rfl) ?_
                refine TL.nil ?_
                first | refine Seq.normal ⟨_, ?_, i + 1, ?_, rfl, ?_⟩ | refine Seq.normal (Q := fun _ _ => True) ⟨_, ?_, i + 1, ?_, rfl, ?_⟩
                · omega
                · exact ⟨by omega, all_step hypi.2 hx hsm⟩
                · exact Can.too (.cons rfl (by rw [hft, setF_int]; simp [hnx, numOf]) (.cons rfl rfl .nil))
              · refine TW.opM (by decide) rfl (yes_none rfl) fun K hK => OpM.fields rfl rfl (by simp only [nput]; rfl) (hK _ ?_)
                clear hK K
                refine TW.opM (by decide) rfl (yes_none rfl) fun K hK => OpM.callF rfl rfl rfl rfl rfl rfl ((indexByte_f ⟨#[109, 103, 120, 121, 122]⟩ 103 1 (by decide +kernel)).k) (by repeat first | exact .nil | refine Snaps.cons (.ro _) ?_) rfl (by simp only [nput]; rfl) (hK _ ?_)
                clear hK K
                refine TW.valE (by decide) rfl (yes_none rfl) (Val.indexTab rfl rfl rfl rfl rfl (by omega) (by decide)) (by simp only [nput]; rfl) ?_
                refine TW.valE (by decide) rfl (yes_none rfl) (Val.loadTab rfl rfl rfl rfl) (by simp only [nput]; rfl) ?_
                refine TW.valE (by decide) rfl (yes_none rfl) (Val.nilPtr rfl rfl) (by simp only [nput]; rfl) ?_
                refine TW.last rfl (yes_none rfl) fun K hK => ?_
                refine OpT.store (z := 1) rfl rfl rfl rfl rfl rfl (by simp [St.store1, St.storeAll, St.cellAt, St.isMem, St.root, St.wrote, St.kill, St.setRoot, TS.kill, TV.kill, C.kill, Rt.kill, hitR, hitP, shapeOf, setRow, setAt, rowAt, D.row, D.reRow, List.isPrefixOf]; rfl) ?_
                simp only [nrm, Nat.reduceBEq, Nat.reduceBNe, reduceIte]
                refine hK _ ?_
                clear hK K
                refine TW.nil ?_
                show TC _ _ _ _ _ _
                refine TC.region ?_
                refine TL.vE (Val.addO rfl rfl rfl) ?_
                refine TL.vE (Val.move 1 rfl rfl) ?_
                refine TL.nil ?_
                first | refine Seq.normal ⟨_, ?_, i + 1, ?_, rfl, ?_⟩ | refine Seq.normal (Q := fun _ _ => True) ⟨_, ?_, i + 1, ?_, rfl, ?_⟩
                · omega
                · exact ⟨by omega, all_step hypi.2 hx hsm⟩
                · exact Can.too (.cons rfl (by rw [hft, setF_int]; simp [hnx, numOf]) (.cons rfl rfl .nil))
              · refine TW.opM (by decide) rfl (yes_none rfl) fun K hK => OpM.fields rfl rfl (by simp only [nput]; rfl) (hK _ ?_)
                clear hK K
                refine TW.opM (by decide) rfl (yes_none rfl) fun K hK => OpM.callF rfl rfl rfl rfl rfl rfl ((indexByte_f ⟨#[109, 103, 120, 121, 122]⟩ 120 2 (by decide +kernel)).k) (by repeat first | exact .nil | refine Snaps.cons (.ro _) ?_) rfl (by simp only [nput]; rfl) (hK _ ?_)
                clear hK K
                refine TW.valE (by decide) rfl (yes_none rfl) (Val.indexTab rfl rfl rfl rfl rfl (by omega) (by decide)) (by simp only [nput]; rfl) ?_
                refine TW.valE (by decide) rfl (yes_none rfl) (Val.loadTab rfl rfl rfl rfl) (by simp only [nput]; rfl) ?_
                refine TW.valE (by decide) rfl (yes_none rfl) (Val.nilPtr rfl rfl) (by simp only [nput]; rfl) ?_
                refine TW.last rfl (yes_none rfl) fun K hK => ?_
                refine OpT.store (z := 1) rfl rfl rfl rfl rfl rfl (by simp [St.store1, St.storeAll, St.cellAt, St.isMem, St.root, St.wrote, St.kill, St.setRoot, TS.kill, TV.kill, C.kill, Rt.kill, hitR, hitP, shapeOf, setRow, setAt, rowAt, D.row, D.reRow, List.isPrefixOf]; rfl) ?_
                simp only [nrm, Nat.reduceBEq, Nat.reduceBNe, reduceIte]
                refine hK _ ?_
                clear hK K
                refine TW.nil ?_
                show TC _ _ _ _ _ _
                refine TC.region ?_
                refine TL.vE (Val.addO rfl rfl rfl) ?_
                refine TL.vE (Val.move 1 rfl rfl) ?_
                refine TL.nil ?_
                first | refine Seq.normal ⟨_, ?_, i + 1, ?_, rfl, ?_⟩ | refine Seq.normal (Q := fun _ _ => True) ⟨_, ?_, i + 1, ?_, rfl, ?_⟩
                · omega
                · exact ⟨by omega, all_step hypi.2 hx hsm⟩
                · exact Can.too (.cons rfl (by rw [hft, setF_int]; simp [hnx, numOf]) (.cons rfl rfl .nil))
              · refine TW.opM (by decide) rfl (yes_none rfl) fun K hK => OpM.fields rfl rfl (by simp only [nput]; rfl) (hK _ ?_)
                clear hK K
                refine TW.opM (by decide) rfl (yes_none rfl) fun K hK => OpM.callF rfl rfl rfl rfl rfl rfl ((indexByte_f ⟨#[109, 103, 120, 121, 122]⟩ 121 3 (by decide +kernel)).k) (by repeat first | exact .nil | refine Snaps.cons (.ro _) ?_) rfl (by simp only [nput]; rfl) (hK _ ?_)
                clear hK K
                refine TW.valE (by decide) rfl (yes_none rfl) (Val.indexTab rfl rfl rfl rfl rfl (by omega) (by decide)) (by simp only [nput]; rfl) ?_
                refine TW.valE (by decide) rfl (yes_none rfl) (Val.loadTab rfl rfl rfl rfl) (by simp only [nput]; rfl) ?_
                refine TW.valE (by decide) rfl (yes_none rfl) (Val.nilPtr rfl rfl) (by simp only [nput]; rfl) ?_
                refine TW.last rfl (yes_none rfl) fun K hK => ?_
                refine OpT.store (z := 1) rfl rfl rfl rfl rfl rfl (by simp [St.store1, St.storeAll, St.cellAt, St.isMem, St.root, St.wrote, St.kill, St.setRoot, TS.kill, TV.kill, C.kill, Rt.kill, hitR, hitP, shapeOf, setRow, setAt, rowAt, D.row, D.reRow, List.isPrefixOf]; rfl) ?_
                simp only [nrm, Nat.reduceBEq, Nat.reduceBNe, reduceIte]
                refine hK _ ?_
                clear hK K
                refine TW.nil ?_
                show TC _ _ _ _ _ _
                refine TC.region ?_
                refine TL.vE (Val.addO rfl rfl rfl) ?_
                refine TL.vE (Val.move 1 rfl rfl) ?_
                refine TL.nil ?_
                first | refine Seq.normal ⟨_, ?_, i + 1, ?_, rfl, ?_⟩ | refine Seq.normal (Q := fun _ _ => True) ⟨_, ?_, i + 1, ?_, rfl, ?_⟩
                · omega
                · exact ⟨by omega, all_step hypi.2 hx hsm⟩
                · exact Can.too (.cons rfl (by rw [hft, setF_int]; simp [hnx, numOf]) (.cons rfl rfl .nil))
              · refine TW.opM (by decide) rfl (yes_none rfl) fun K hK => OpM.fields rfl rfl (by simp only [nput]; rfl) (hK _ ?_)
                clear hK K
                refine TW.opM (by decide) rfl (yes_none rfl) fun K hK => OpM.callF rfl rfl rfl rfl rfl rfl ((indexByte_f ⟨#[109, 103, 120, 121, 122]⟩ 122 4 (by decide +kernel)).k) (by repeat first | exact .nil | refine Snaps.cons (.ro _) ?_) rfl (by simp only [nput]; rfl) (hK _ ?_)
                clear hK K
                refine TW.valE (by decide) rfl (yes_none rfl) (Val.indexTab rfl rfl rfl rfl rfl (by omega) (by decide)) (by simp only [nput]; rfl) ?_
                refine TW.valE (by decide) rfl (yes_none rfl) (Val.loadTab rfl rfl rfl rfl) (by simp only [nput]; rfl) ?_
                refine TW.valE (by decide) rfl (yes_none rfl) (Val.nilPtr rfl rfl) (by simp only [nput]; rfl) ?_
                refine TW.last rfl (yes_none rfl) fun K hK => ?_
                refine OpT.store (z := 1) rfl rfl rfl rfl rfl rfl (by simp [St.store1, St.storeAll, St.cellAt, St.isMem, St.root, St.wrote, St.kill, St.setRoot, TS.kill, TV.kill, C.kill, Rt.kill, hitR, hitP, shapeOf, setRow, setAt, rowAt, D.row, D.reRow, List.isPrefixOf]; rfl) ?_
                simp only [nrm, Nat.reduceBEq, Nat.reduceBNe, reduceIte]
                refine hK _ ?_
                clear hK K
                refine TW.nil ?_
                show TC _ _ _ _ _ _
                refine TC.region ?_
                refine TL.vE (Val.addO rfl rfl rfl) ?_
                refine TL.vE (Val.move 1 rfl rfl) ?_
                refine TL.nil ?_
                first | refine Seq.normal ⟨_, ?_, i + 1, ?_, rfl, ?_⟩ | refine Seq.normal (Q := fun _ _ => True) ⟨_, ?_, i + 1, ?_, rfl, ?_⟩
                · omega
                · exact ⟨by omega, all_step hypi.2 hx hsm⟩
                · exact Can.too (.cons rfl (by rw [hft, setF_int]; simp [hnx, numOf]) (.cons rfl rfl .nil))
            have hk52 := hb
            refine TC.exit ?_
            show TC _ _ _ _ _ _
            refine TC.seq ?_
            have hil : l.length ≤ i := by simp at hb; omega
            have hal : (l.all fun v => (readDec v).isSome) = true := all_all hypi.2 hil
            have hie : i = l.length := by omega
            subst hie
            rw [if_pos ⟨by omega, hfo.2, hal⟩] at hr2
            refine TC.region ?_
            refine TL.valE rfl (by first | exact Val.loadCAgg (n := 6) rfl rfl rfl rfl (Nat.le_of_ble_eq_true rfl) | exact Val.loadAgg (n := 6) rfl rfl rfl rfl (by simp [St.cellsAt, St.cellAt, St.root, valC]; rfl) rfl | exact Val.loadAgg (n := 6) rfl rfl rfl rfl rfl rfl) (by simp only [St.put, List.set_cons_succ, List.set_cons_zero, valC, dAct, rAct, D.row, List.take_succ_cons, List.take_zero, List.map_cons, List.map_nil]; rfl) ?_
            refine TL.opK rfl fun K hK => ?_
            refine OpT.storeAgg rfl rfl rfl rfl rfl rfl (by simp [St.store1, St.storeAll, St.cellAt, St.isMem, St.root, St.wrote, St.kill, St.setRoot, TS.kill, TV.kill, C.kill, Rt.kill, hitR, hitP, shapeOf, setRow, setAt, rowAt, D.row, D.reRow, List.isPrefixOf]; rfl) ?_ -- None
            simp only [nrm, Nat.reduceBEq, Nat.reduceBNe, reduceIte]
            refine hK _ ?_
            clear hK K
            refine TL.vE (Val.assign 1 rfl rfl) ?_
            refine TL.nil ?_
            show TC _ _ _ _ _ _
            refine TC.ret ?_
            exact ⟨.inr rfl, [_, _], [_, _], _, rfl, by decide, rfl, by simp [refV, refC, valC], rfl, (by simp only [RAct, hr2]; rfl)⟩
      have hk27 := hb
      refine TC.exit ?_
      show TC _ _ _ _ _ _
      refine TC.seq ?_
      have h0 : readAct s = none := by (rw [hr2, if_neg]; rintro ⟨h1, h2, h3⟩; exact hyp.2 (actTo a 17 - 1).toNat (by simp at hb; omega) (by rw [show (((actTo a 17 - 1).toNat : Nat) : Int) + 1 = actTo a 17 by omega]; exact ⟨hin.2.2 h1, h2⟩))
      refine TC.region ?_
      refine TL.vE (Val.build (parts := []) (place := [(0, 1), (1, 1), (2, 1), (3, 1), (4, 1), (5, 1)]) rfl rfl rfl rfl rfl rfl rfl rfl rfl (by simp [fillC]; rfl)) ?_
      refine TL.opK rfl fun K hK => ?_
      refine OpT.storeAgg rfl rfl rfl rfl rfl rfl (by simp [St.store1, St.storeAll, St.cellAt, St.isMem, St.root, St.wrote, St.kill, St.setRoot, TS.kill, TV.kill, C.kill, Rt.kill, hitR, hitP, shapeOf, setRow, setAt, rowAt, D.row, D.reRow, List.isPrefixOf]; rfl) ?_ -- None
      simp only [nrm, Nat.reduceBEq, Nat.reduceBNe, reduceIte]
      refine hK _ ?_
      clear hK K
      refine TL.vE (Val.assign 1 rfl rfl) ?_
      refine TL.nil ?_
      show TC _ _ _ _ _ _
      refine TC.ret ?_
      exact ⟨.inr rfl, [_, _], [_, _], _, rfl, by decide, rfl, by simp [refV, refC, valC], rfl, (by simp only [RAct, h0]; rfl)⟩
end Go.Proofs.YtfbjcdhphhfpfaaGreatDoor.T

