/- The lifted walk, part zf: a part of an own list that is only read from then on. No condition. -/
import Derived.Test.YtdlpmcjpbcbbjaaDoorTze
namespace Go.Proofs.YtdlpmcjpbcbbjaaDoor.T
open Go
set_option linter.unusedVariables false
set_option linter.unusedSimpArgs false

section
variable {P : Program} {w0 : World} {g0 : Gh} {st : St} {o : Oper} {ty e : TypeId} {x y : Operand}

/-- The part from an index on; the list itself is forgotten: nobody writes to it any more. -/
theorem OpT.sliceFz (ho : o.op = .slice ty x (some y) none none) {k d : Nat} (hd : o.dst = some d) {sz : Nat} {ds : List D} {i : Int} (hx : T.opd 0 st x = some (.one (.c (.ref ⟨k, [], 0⟩)))) (hc : st.cellAt ⟨k, [], 0⟩ = some (.own (.sl sz ds)))
    (hw : Whole (.sl sz ds)) (hy : T.opd 0 st y = some (I i)) (hu : P.underlying ty = some (.slice e)) (hs : sizeT P e = some sz) (h0 : 0 ≤ i) (h1 : i.toNat ≤ ds.length) (hkp : k < 1000000 := by decide) {Q : St → Prop}
    (hq : Q ((st.renew [k] k ⟨false, []⟩).put (some d) (.one (.c (.ro (.sl sz (ds.drop i.toNat))))))) : OpT P w0 g0 o st Q := fun a w g hR K Q' hK => by
  have hK1 : pinK ≠ k := by simp only [pinK]; omega
  have hO := (hR.cellAt hc).1 _ rfl
  have hx' := hR.opd hx
  let g' : Gh := { g with o := fun b => if (g.o b).root? = some k then .ro else g.o b }
  have hsame : ∀ b, (g.o b).root? ≠ some k → g'.o b = g.o b := fun b hb => if_neg hb
  have hS : Same w g w g' (fun k' => ([k] : List Nat).contains k' = false) := by
    refine ⟨fun b hb => ⟨by rw [hsame b (by rw [hb]; simp [Tag.root?])]; exact hb, rfl⟩, fun k' hk' b hb => ⟨hsame b (fun e => ?_), rfl⟩, fun _ _ => rfl, fun _ _ => rfl⟩
    rw [hb] at e
    cases e
    simp at hk'
  have hR' : Rel w0 g0 (st.renew [k] k ⟨false, []⟩) a w g' := by
    refine hR.renew (by simp) hS ⟨hR.ks.os, hR.ks.tape, hR.ks.output, hR.ks.size, fun b hb ht => ?_, fun b hb => ?_, fun b hb hb2 => ?_, hR.ks.pin, fun b => ?_⟩ (fun q c hq => by simp at hq) rfl
    · have := hR.ks.block b hb ht
      refine ⟨this.1, ?_⟩
      rw [hsame b (by rw [this.2]; rcases ht with h | h <;> rw [h] <;> simp [Tag.root?])]
      exact this.2
    · have := hR.ks.fresh b hb
      rw [hsame b (by rw [this]; simp [Tag.root?])]
      exact this
    · refine hR.ks.old b hb ?_
      by_cases h : (g.o b).root? = some k
      · have : g'.o b = .ro := if_pos h
        rw [this] at hb2; cases hb2
      · rw [hsame b h] at hb2; exact hb2
    · by_cases h : (g.o b).root? = some k
      · have : g'.o b = .ro := if_pos h
        rw [this]; simp
      · rw [hsame b h]; exact hR.ks.nobox b
  have hro : Ro w g'.o (.sl sz ds) (g.cv k [] 0) := hO.roAt hw fun b hb _ => if_pos hb
  generalize hv : a.eval x = v at hx'
  cases hx' with
  | one _ _ h1' =>
    cases h1' with
    | c _ _ h1' =>
      have h2 : v = g.cv k [] 0 := h1'.1
      subst h2
      obtain ⟨m, rfl⟩ := Int.eq_ofNat_of_zero_le h0
      generalize hcv : g.cv k [] 0 = v at *
      cases hO with
      | nil _ _ _ hc' =>
        rw [hcv] at hc'
        subst hc'
        have hm0 : m = 0 := by simpa using h1
        subst hm0
        have hrun : (execOp a.eval o).run P w = .ok (.value (.slice none 0 0)) w := by
          simp [execOp, ho, hv, hR.val hy, Instr.sliceAt, Instr.slice, run_underlying hu, Instr.sliceBounds, Instr.sliceBound, asIntOf, run_sizeOf' hs]
        unfold Oper.wp
        rw [hrun]
        refine hK _ _ _ g' hq ?_
        rw [hd]
        refine hR'.put (.one _ _ (.c (.ro _) _ ?_)) (some d)
        show Ro w g'.o (.sl sz (([] : List D).drop _)) _
        rw [List.drop_nil]
        exact Ro.nil _ _ _
      | sl _ _ _ _ b off n c cs e' hc' hn hm hnc hcm hob hb hfit hrow had hcell hel =>
        rw [hcv] at hc'
        subst hc'
        have hm1 : m ≤ n := by rw [← hn]; exact h1
        have hrun : (execOp a.eval o).run P w = .ok (.value (.slice (if c = m then some ⟨b, off, none⟩ else some ⟨b, off + m * sz, none⟩) (n - m) (c - m))) w := by
          have h3 : (m : Int) ≤ n := by omega
          simp [execOp, ho, hv, hR.val hy, Instr.sliceAt, Instr.slice, run_underlying hu, Instr.sliceBounds, Instr.sliceBound, asIntOf, run_sizeOf' hs, h3]
          split <;> simp [Addr.add_lit]
        unfold Oper.wp
        rw [hrun]
        refine hK _ _ _ g' hq ?_
        rw [hd]
        refine hR'.put (.one _ _ (.c (.ro _) _ ?_)) (some d)
        show Ro w g'.o (.sl sz (ds.drop m)) _
        by_cases hlen : n ≤ m
        · have e1 : ds.drop m = [] := List.drop_eq_nil_of_le (by omega)
          have e2 : n - m = 0 := by omega
          rw [e1, e2]
          exact Ro.nil _ _ _
        · rw [if_neg (show ¬ c = m by omega)]
          cases hro with
          | nil _ _ _ => simp at hn; omega
          | sl _ _ _ _ _ _ us hn2 hm2 hob2 hrow2 hcell2 hel2 =>
            refine .sl sz (ds.drop m) b (off + m * sz) (n - m) (c - m) (fun t => us (m * sz + t)) (by simp [hn]) (by omega) hob2 (fun x hx => hrow x (List.mem_of_mem_drop hx)) (fun t ht => ?_) (fun i x hi j c' hj => ?_)
            · have h5 : m * sz + t < n * sz := by
                have : (n - m) * sz + m * sz = n * sz := by rw [← Nat.add_mul]; congr 1; omega
                omega
              have := hcell2 _ h5
              rw [Nat.add_assoc]
              exact this
            · rw [List.getElem?_drop] at hi
              have := hel2 _ x hi j c' hj
              rw [show m * sz + (i * sz + j) = (m + i) * sz + j by rw [Nat.add_mul]; omega]
              exact this
end
end Go.Proofs.YtdlpmcjpbcbbjaaDoor.T
