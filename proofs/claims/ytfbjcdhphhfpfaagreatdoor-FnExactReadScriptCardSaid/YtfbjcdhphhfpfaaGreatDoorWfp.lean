/- The pointers to an action's numbers: impl.fields, and lists of pointers in the lifted walk. No condition. -/
import Derived.Test.YtfbjcdhphhfpfaaGreatDoorBasep
import Derived.Test.YtfbjcdhphhfpfaaGreatDoorWcp
import Derived.StillTailTactics
import Derived.BigQuiet
namespace Go.Proofs.YtfbjcdhphhfpfaaGreatDoor.T
open Go Go.ChangeShapes Go.WideShapes Go.ChangeAt Go.RowKit
set_option linter.unusedVariables false
set_option linter.unusedSimpArgs false
set_option maxRecDepth 100000
set_option maxHeartbeats 1000000

theorem fields_calls (b off : Nat) (w : World) :
    Calls Tryz.prog 54 #[.pointer (some ⟨b, off, none⟩)] w fun e w' => e = .returned (.slice (some ⟨w.heap.size, 0, none⟩) 5 5) ∧
      ∃ k, w' = ((w.drewN k).alloc (.cells #[.pointer (some ⟨b, off + 1, none⟩), .pointer (some ⟨b, off + 2, none⟩), .pointer (some ⟨b, off + 3, none⟩), .pointer (some ⟨b, off + 4, none⟩), .pointer (some ⟨b, off + 5, none⟩)] 73)) := by
  go_enter Tryz.func54, Tryz.ntmps54
  go_wp2_with fail
  go_still_tail 15, (by kernel_rfl)
  change wpList _ _ _ _ _ w.drew
  go_wp2
  go_ret
  exact ⟨rfl, 1, rfl⟩

section
variable {P : Program} {w0 : World} {g0 : Gh} {st : St} {o : Oper} {x y : Operand} {t e : TypeId}
theorem Val.lenTab (ho : o.op = .call { callee := .builtin .len, args := #[x], argTypes := #[t] }) {pls : List Pl} (hx : T.opd 0 st x = some (.one (.tab pls))) (hu : P.underlying t = some (.slice e)) : Val P w0 g0 o st (I pls.length) := fun a w g hR => by
  have h2 := hR.opd hx
  generalize hv : a.eval x = v at h2
  cases h2 with
  | one _ _ h2 =>
    cases h2 with
    | tab _ b off hro hcell =>
      refine ⟨.int .i64 pls.length, fun w' hw => ?_, V_mk rfl⟩
      simp [execOp, ho, resolve, invoke, builtin, Builtin.len_, run_underlying hu, hv, goInt]

theorem Val.indexTab (ho : o.op = .indexAddr t x y) {pls : List Pl} {k : IntKind} {i : Int} (hx : T.opd 0 st x = some (.one (.tab pls))) (hy : T.opd 0 st y = some (V (.int k i)))
    (hu : P.underlying t = some (.slice e)) (hs : sizeT P e = some 1) (h0 : 0 ≤ i) (h1 : i.toNat < pls.length) : Val P w0 g0 o st (.one (.ptab (pls.drop i.toNat))) :=
  fun a w g hR => by
    have h2 := hR.opd hx
    generalize hv : a.eval x = v at h2
    cases h2 with
    | one _ _ h2 =>
      cases h2 with
      | tab _ b off hro hcell =>
        have hlt : i < (pls.length : Int) := by omega
        refine ⟨.pointer (some ⟨b, off + i.toNat * 1, none⟩), fun w' hw => ?_, .one _ _ ?_⟩
        · simp only [execOp, ho, hv, hR.val hy, Sem.run_bind, Sem.run_pure, Instr.indexAt, asIntOf, Result.andThen_ok, run_underlying hu, run_sizeOf' hs]
          simp [h0, hlt, run_sizeOf' hs, Addr.add_lit]
        · rw [Nat.mul_one]
          refine .ptab _ b _ hro fun j pl hj => ?_
          rw [List.getElem?_drop] at hj
          rw [Nat.add_assoc]
          exact hcell _ pl hj

theorem Val.loadTab (ho : o.op = .load t x) {pl : Pl} {pls : List Pl} (hx : T.opd 0 st x = some (.one (.ptab pls))) (hp : pls[0]? = some pl) (ht : aggT P t = some false) : Val P w0 g0 o st (.one (.ptr pl)) :=
  fun a w g hR => by
    have h2 := hR.opd hx
    generalize hv : a.eval x = v at h2
    cases h2 with
    | one _ _ h2 =>
      cases h2 with
      | ptab _ b off hro hcell =>
        have h3 := hcell 0 pl hp
        refine ⟨_, fun w' hw => ?_, .one _ _ (.ptr pl)⟩
        have h4 := hw.cell h3
        rw [Nat.add_zero] at h4
        simp [execOp, ho, hv, Instr.loadAt, Instr.sureAddr, loadVar, run_isAgg' ht, h4]

theorem Val.nilPtr (ho : o.op = .nilCheck x) {pl : Pl} (hx : T.opd 0 st x = some (.one (.ptr pl))) : Val P w0 g0 o st (.one (.ptr pl)) :=
  fun a w g hR => by
    have h2 := hR.opd hx
    generalize hv : a.eval x = v at h2
    cases h2 with
    | one _ _ h2 =>
      cases h2 with
      | ptr _ =>
        refine ⟨_, fun w' hw => ?_, .one _ _ (.ptr pl)⟩
        simp [execOp, ho, hv]
end

section
variable {w0 : World} {g0 : Gh} {st : St}
theorem TL.fields {ops : Array Oper} {o : Oper} {rest : List Oper} {st' : St} {Q : St → Prop} (hg : yes ops st o) {x : Operand} {tys : Array TypeId}
    (ho : o.op = .call { callee := .value (.func 54), args := [x].toArray, argTypes := tys }) {pl : Pl} (hx : T.opd 0 st x = some (.one (.ptr pl)))
    (hpt : st.put o.dst (.one (.tab [⟨pl.k, pl.p, pl.q + 1⟩, ⟨pl.k, pl.p, pl.q + 2⟩, ⟨pl.k, pl.p, pl.q + 3⟩, ⟨pl.k, pl.p, pl.q + 4⟩, ⟨pl.k, pl.p, pl.q + 5⟩])) = st') (hq : TL Tryz.prog w0 g0 ops rest st' Q) : TL Tryz.prog w0 g0 ops (o :: rest) st Q := fun a w g hR Q' hQ => wpList_step fun K hK => by
  rw [if_pos (yes_of hg hR)]
  unfold Oper.wp
  rw [run_enter hR ho rfl Tryz.func54 rfl (by decide +kernel) w]
  have h2 := hR.opd hx
  have hargs : ([x].map a.eval).toArray = #[.pointer (some ⟨(g.ad pl.k pl.p).1, (g.ad pl.k pl.p).2 + pl.q, none⟩)] := by
    generalize hv : a.eval x = v at h2
    cases h2 with
    | one _ _ h2 =>
      cases h2 with
      | ptr _ => simp [hv, cellAddr]
  rw [hargs]
  refine (fields_calls _ _ w).mono fun e w' ⟨he, k, hw⟩ => ?_
  subst he
  have hL : Later w w' := by
    subst hw
    refine ⟨rfl, rfl, rfl, ?_, fun b hb => ?_⟩
    · show w.heap.size ≤ (w.heap.push _).size
      simp
    · show (w.heap.push _)[b]? = w.heap[b]?
      rw [Array.getElem?_push, if_neg (by omega)]
  have hR' := hR.later hL
  have hsz : w'.heap.size = w.heap.size + 1 := by
    subst hw
    show (w.heap.push _).size = _
    simp
  refine hK _ _ (hq _ _ _ (hpt ▸ hR'.put (.one _ _ ?_) o.dst) Q' hQ)
  refine RepT.tab (w := w') (g := g.later w.heap.size w'.heap.size) [⟨pl.k, pl.p, pl.q + 1⟩, ⟨pl.k, pl.p, pl.q + 2⟩, ⟨pl.k, pl.p, pl.q + 3⟩, ⟨pl.k, pl.p, pl.q + 4⟩, ⟨pl.k, pl.p, pl.q + 5⟩] w.heap.size 0 ?_ fun j pl' hj => ?_
  · simp only [Gh.later, if_neg (Nat.lt_irrefl _), hsz]
    rw [if_pos (by omega)]
  · have hc : ∀ i : Nat, w'.cell? ⟨w.heap.size, 0 + i, none⟩ = (#[Value.pointer (some ⟨(g.ad pl.k pl.p).1, (g.ad pl.k pl.p).2 + pl.q + 1, none⟩), .pointer (some ⟨(g.ad pl.k pl.p).1, (g.ad pl.k pl.p).2 + pl.q + 2, none⟩), .pointer (some ⟨(g.ad pl.k pl.p).1, (g.ad pl.k pl.p).2 + pl.q + 3, none⟩), .pointer (some ⟨(g.ad pl.k pl.p).1, (g.ad pl.k pl.p).2 + pl.q + 4, none⟩), .pointer (some ⟨(g.ad pl.k pl.p).1, (g.ad pl.k pl.p).2 + pl.q + 5, none⟩)] : Array Value)[i]? := fun i => by
      subst hw
      rw [Nat.zero_add]
      exact World.cell?_alloc_new (w.drewN k) _ _ _
    rw [hc j]
    match j, hj with
    | 0, hj | 1, hj | 2, hj | 3, hj | 4, hj =>
      simp only [List.getElem?_cons_zero, List.getElem?_cons_succ, Option.some.injEq] at hj
      subst hj
      simp [Gh.later, cellAddr, Nat.add_assoc]
    | j + 5, hj => simp at hj
end
end Go.Proofs.YtfbjcdhphhfpfaaGreatDoor.T

