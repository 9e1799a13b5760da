/- strings.Join by the shelf's contract, at a list of one's own; calls by what they are shown to do at a state. No condition. -/
import Derived.Test.YtdlpmcjpbcbbjaaDoorTzc
import Derived.Shelf.Strings.OnBuilder
namespace Go.Proofs.YtdlpmcjpbcbbjaaDoor.T
open Go Go.Sort Go.RowKit
set_option linter.unusedVariables false
set_option linter.unusedSimpArgs false

section
variable {P : Program} {w0 : World} {g0 : Gh} {st : St}
/-- A call that is shown at a state to give a plain value and to leave alone what was there. -/
theorem TL.callA {ops : Array Oper} {o : Oper} {rest : List Oper} {st' : St} {Q : St → Prop} (hg : yes ops st o) {f : FuncId} {cx : Operand} {args : List Operand} {tys : Array TypeId} {fn : Func}
    (ho : o.op = .call { callee := .value cx, args := args.toArray, argTypes := tys }) (hcx : T.opd 0 st cx = some (.fn f [])) (hf : P.funcs[f]? = some fn) (hb : fn.body.isNone = false)
    (hn : (fn.name == "runtime.NumGoroutine") = false) {x : Value} (hp : plain x = true)
    (hc : ∀ a w g, Rel w0 g0 st a w g → Calls P f (args.map a.eval).toArray w fun e w' => e = .returned x ∧ Below w.heap.size w w')
    (hpt : st.put o.dst (V x) = st') (hq : TL P w0 g0 ops rest st' Q) : TL P w0 g0 ops (o :: rest) st Q := fun a w g hR Q' hQ => wpList_step fun K hK => by
  rw [if_pos (yes_of hg hR)]
  unfold Oper.wp
  rw [run_enter hR ho hcx hf hb hn w]
  refine (hc a w g hR).mono fun e w' ⟨he, hB⟩ => ?_
  subst he
  have hR' := hR.later (w' := w') ⟨hB.os, hB.tape, hB.output, hB.size, hB.block⟩
  exact hK _ _ (hq _ _ _ (hpt ▸ hR'.put (V_mk hp) o.dst) Q' hQ)
end

/-- The texts, a separator between them. -/
def joinB (xs : List ByteArray) (sep : ByteArray) : ByteArray := ⟨(Lib.join (xs.map (·.data.toList)) sep.data.toList).toArray⟩

theorem Rel.join {w0 : World} {g0 : Gh} {st : St} {a : Act} {w : World} {g : Gh} (hR : Rel w0 g0 st a w g) {x y : Operand} {pl : Pl} {xs : List ByteArray} {sep : ByteArray} {z : Nat}
    (hx : T.opd z st x = some (.one (.c (.ref pl)))) (hc : st.cellAt pl = some (.own (.sl 1 (xs.map fun s => .v (.string s))))) (hy : T.opd 0 st y = some (S sep))
    (hN : xs.length ≤ 1048576) (hlen : (joinB xs sep).size ≤ 140737488355328) :
    Calls Tryd.prog 102 ([x, y].map a.eval).toArray w fun e w' => e = .returned (.string (joinB xs sep)) ∧ Below w.heap.size w w' := by
  have hy' := hR.val hy
  have hO := (hR.cellAt hc).1 _ rfl
  have hx' := hR.opd hx
  generalize hv : a.eval x = v at hx'
  cases hx' with
  | one _ _ h1 =>
    cases h1 with
    | c _ _ h1 =>
      have h2 : v = g.cv pl.k pl.p pl.q := h1.1
      show Calls Tryd.prog _ #[a.eval x, a.eval y] w _
      rw [hv, hy', h2]
      generalize hds : (xs.map fun s => D.v (.string s)) = ds at hO
      have hxl : xs.length = ds.length := by rw [← hds]; simp
      generalize hg : g.cv pl.k pl.p pl.q = v' at *
      cases hO with
      | nil _ _ _ hc' =>
        rw [hg] at hc'
        subst hc'
        have : xs = [] := by simpa using hds
        subst this
        exact (Any.strings_Join_none laysJoin laysJoin_extra _ _ sep w).mono fun e w' ⟨he, hw⟩ => ⟨he, hw ▸ Below.refl _ _⟩
      | sl _ _ _ _ b off n c cs e hc' hn hm hnc hcm ho hb hfit hrow had hcell hel =>
        rw [hg] at hc'
        subst hc'
        have hxn : xs.length = n := by omega
        subst hxn
        have hlt : b < w.heap.size := lt_of_heap hb
        refine Any.strings_Join laysJoin laysJoin_extra b off c xs sep w (fun j s hj => ?_) hlt (by omega) hnc (by simpa [joinB, ByteArray.size] using hlen)
        have hjl : j < xs.length := (List.getElem?_eq_some_iff.1 hj).1
        have h3 := hcell j 0 hjl (by omega)
        have hd : ds[j]? = some (.v (.string s)) := by rw [← hds]; simp [hj]
        have h4 := hel j _ hd 0 _ rfl
        rw [Nat.mul_one, Nat.add_zero] at h3
        rw [h3]
        cases h4 with
        | v _ _ _ _ h5 => rw [h5]
end Go.Proofs.YtdlpmcjpbcbbjaaDoor.T
