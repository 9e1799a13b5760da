/- The lifted walk, part q: the rest of the code behind a variable; regions that draw their order. No condition. -/
import Derived.Test.YtdlpmcjpbcbbjaaDoorTp
import Derived.Deep.Quiet
namespace Go.Proofs.YtdlpmcjpbcbbjaaDoor.T
open Go
set_option linter.unusedVariables false
set_option linter.unusedSimpArgs false

section
variable {P : Program} {w0 : World} {g0 : Gh}

theorem TL.opK {ops : Array Oper} {o : Oper} {rest : List Oper} {st : St} {Q : St → Prop} (hg : o.guard = none) (h : ∀ K : St → Prop, (∀ st', TL P w0 g0 ops rest st' Q → K st') → OpT P w0 g0 o st K) :
    TL P w0 g0 ops (o :: rest) st Q := TL.op hg (h _ fun _ h => h)
theorem TL.guardK {ops : Array Oper} {o : Oper} {rest : List Oper} {st : St} {Q : St → Prop} {j : Nat} {want b : Bool} (hg : o.guard = some (j, want)) (hb : guardOf ops st j = some (V (.bool b)))
    (he : b = want) (h : ∀ K : St → Prop, (∀ st', TL P w0 g0 ops rest st' Q → K st') → OpT P w0 g0 o st K) : TL P w0 g0 ops (o :: rest) st Q := TL.guard_yes hg hb he (h _ fun _ h => h)
/-- One operation whose value is known: what follows stays as it stands. -/
theorem TL.val {ops : Array Oper} {o : Oper} {rest : List Oper} {st : St} {Q : St → Prop} {t : TS} (hg : o.guard = none) (h : Val P w0 g0 o st t) (hq : TL P w0 g0 ops rest (st.put o.dst t) Q) :
    TL P w0 g0 ops (o :: rest) st Q := TL.op hg (OpT.val h hq)

/-- Later worlds in which what was there is as it was. -/
def Later (w : World) : World → Prop := fun w' => w'.os = w.os ∧ w'.tape = w.tape ∧ w'.output = w.output ∧ w.heap.size ≤ w'.heap.size ∧ Ext w w'

theorem Later.trans {w w' w'' : World} (h : Later w w') (h' : Later w' w'') : Later w w'' :=
  ⟨h'.1.trans h.1, h'.2.1.trans h.2.1, h'.2.2.1.trans h.2.2.1, Nat.le_trans h.2.2.2.1 h'.2.2.2.1, fun b hb => (h'.2.2.2.2 b (Nat.lt_of_lt_of_le hb h.2.2.2.1)).trans (h.2.2.2.2 b hb)⟩

/-- What is new is nobody's. -/
def Gh.later (g : Gh) (n n' : Nat) : Gh := { g with o := fun b => if b < n then g.o b else if b < n' then .ro else .outer }

theorem Rel.sameLater {st : St} {a : Act} {w w' : World} {g : Gh} (hR : Rel w0 g0 st a w g) (h : Later w w') : Same w g w' (g.later w.heap.size w'.heap.size) (fun _ => True) := by
  have hlt : ∀ b, g.o b ≠ .outer → b < w.heap.size := fun b hb => by
    rcases Nat.lt_or_ge b w.heap.size with h | h
    · exact h
    · exact absurd (hR.ks.fresh b h) hb
  have ho : ∀ b, b < w.heap.size → (g.later w.heap.size w'.heap.size).o b = g.o b := fun b hb => if_pos hb
  refine ⟨fun b hb => ?_, fun k _ b hb => ?_, fun _ _ => rfl, fun _ _ => rfl⟩
  · have := hlt b (by rw [hb]; simp)
    exact ⟨by rw [ho b this]; exact hb, h.2.2.2.2 b this⟩
  · have := hlt b (fun e => by rw [e] at hb; cases hb)
    exact ⟨ho b this, h.2.2.2.2 b this⟩

theorem over_all {t : TS} : t.over (fun _ => True) := by
  have hC : ∀ c : C, c.over (fun _ => True) := fun c => by cases c <;> trivial
  have hT : ∀ t : TV, t.over (fun _ => True) := fun t => by
    cases t with
    | c x => exact hC x
    | agg cs => exact fun c _ => hC c
    | tab pls => exact fun _ _ => trivial
    | ptab pls => exact fun _ _ => trivial
    | _ => trivial
  cases t with
  | one t => exact hT t
  | tup ts => exact fun t _ => hT t
  | fn f ts => exact fun t _ => hT t

theorem Rel.later {st : St} {a : Act} {w w' : World} {g : Gh} (hR : Rel w0 g0 st a w g) (h : Later w w') : Rel w0 g0 st a w' (g.later w.heap.size w'.heap.size) := by
  have hS := hR.sameLater h
  have ho : ∀ b, b < w.heap.size → (g.later w.heap.size w'.heap.size).o b = g.o b := fun b hb => if_pos hb
  refine ⟨fun i tv hi => (hR.tm i tv hi).mono hS over_all, hR.sz, hR.df, hR.rt.mono hS fun k r hk => ⟨trivial, fun c _ => by cases c <;> trivial⟩, ?_⟩
  have hK := hR.ks
  refine ⟨h.1.trans hK.os, h.2.1.trans hK.tape, h.2.2.1.trans hK.output, Nat.le_trans hK.size h.2.2.2.1, fun b hb hx => ?_, fun b hb => ?_, fun b hb hx => ?_, hK.pin, fun b hb => ?_⟩
  · have h1 : b < w.heap.size := by have := hK.size; omega
    rw [ho b h1, h.2.2.2.2 b h1]
    exact hK.block b hb hx
  · have h1 : ¬ b < w.heap.size := by have := h.2.2.2.1; omega
    simp only [Gh.later, if_neg h1, if_neg (Nat.not_lt.2 hb)]
  · by_cases h1 : b < w.heap.size
    · rw [ho b h1] at hx
      exact hK.old b h1 hx
    · simp only [Gh.later, if_neg h1, if_pos hb] at hx
      cases hx
  · by_cases h1 : b < w.heap.size
    · rw [ho b h1] at hb
      exact hK.nobox b hb
    · simp only [Gh.later, if_neg h1] at hb
      split at hb <;> cases hb

/-- The lexical walk of a region that draws its order. -/
def TQ (P : Program) (w0 : World) (g0 : Gh) (ops : Array Oper) (l : List Oper) (st : St) (Q : St → Prop) : Prop :=
  ∀ a w g, Rel w0 g0 st a w g → ∀ (Q' : Act → Prop), (∀ st' a', Q st' → Rel w0 g0 st' a' w g → Q' a') → wpQuiet P ops (Later w) Q' l a

theorem TC.regionQ {i : Nat} {ops : Array Oper} {st : St} {Q : Exit → St → Prop} (hm : P.follows .mixedOrders = true) (hB : Region.lexB .any ops = true) (h : TQ P w0 g0 ops ops.toList st (fun st' => Q .normal st')) :
    TC P w0 g0 (.region i ops true) st Q := fun a w g hR => by
  refine wp_region_quiet (C := Later w) hm hB ⟨rfl, rfl, rfl, Nat.le_refl _, fun _ _ => rfl⟩ (h a w g hR _ fun st' a' hq hR' w' hw' => ⟨st', _, hq, hR'.later hw'⟩)

theorem TQ.nil {ops : Array Oper} {st : St} {Q : St → Prop} (h : Q st) : TQ P w0 g0 ops [] st Q := fun a w g hR Q' hQ => hQ st a h hR

theorem TQ.val {ops : Array Oper} {o : Oper} {rest : List Oper} {st : St} {Q : St → Prop} {t : TS} (hg : o.guard = none) (h : Val P w0 g0 o st t) (hq : TQ P w0 g0 ops rest (st.put o.dst t) Q) :
    TQ P w0 g0 ops (o :: rest) st Q := fun a w g hR Q' hQ => by
  refine wpQuiet_step fun K hK => ?_
  rw [if_pos (by simp [Region.wanted, hg])]
  obtain ⟨v, hr, hv⟩ := h a w g hR
  refine ⟨v, fun w' hw' => ?_, hK _ (hq _ _ _ (hR.put hv o.dst) Q' hQ)⟩
  unfold Oper.quietAt
  rw [hr w' hw'.2.2.2.2]
  exact ⟨rfl, rfl⟩

theorem TQ.guard_yes {ops : Array Oper} {o : Oper} {rest : List Oper} {st : St} {Q : St → Prop} {t : TS} {j : Nat} {want b : Bool} (hg : o.guard = some (j, want)) (hb : guardOf ops st j = some (V (.bool b))) (he : b = want)
    (h : Val P w0 g0 o st t) (hq : TQ P w0 g0 ops rest (st.put o.dst t) Q) : TQ P w0 g0 ops (o :: rest) st Q := fun a w g hR Q' hQ => by
  refine wpQuiet_step fun K hK => ?_
  rw [if_pos (by simp [Region.wanted, hg, yielded_of hR hb, he])]
  obtain ⟨v, hr, hv⟩ := h a w g hR
  refine ⟨v, fun w' hw' => ?_, hK _ (hq _ _ _ (hR.put hv o.dst) Q' hQ)⟩
  unfold Oper.quietAt
  rw [hr w' hw'.2.2.2.2]
  exact ⟨rfl, rfl⟩

theorem TQ.guard_no {ops : Array Oper} {o : Oper} {rest : List Oper} {st : St} {Q : St → Prop} {j : Nat} {want b : Bool} (hg : o.guard = some (j, want)) (hb : guardOf ops st j = some (V (.bool b)))
    (he : b = !want) (h : TQ P w0 g0 ops rest (st.put o.dst (.one .dead)) Q) : TQ P w0 g0 ops (o :: rest) st Q := fun a w g hR Q' hQ => by
  refine wpQuiet_step fun K hK => ?_
  rw [if_neg (by simp [Region.wanted, hg, yielded_of hR hb, he])]
  exact hK _ (h _ _ _ (hR.put (.one _ _ (.dead _)) o.dst) Q' hQ)

/-- Plain results. -/
def plainS : TS → Bool
  | .one (.c (.ro (.v x))) => plain x
  | _ => false

theorem plainS_spec {t : TS} (h : plainS t = true) : ∃ x, t = V x ∧ plain x = true := by
  unfold plainS at h
  split at h
  · exact ⟨_, rfl, h⟩
  · cases h

/-- A call whose result is one plain value, told by the contract. -/
theorem TQ.call {ops : Array Oper} {o : Oper} {rest : List Oper} {st : St} {Q : St → Prop} (hg : o.guard = none) {f : FuncId} {args : List Operand} {tys : Array TypeId} {fn : Func}
    (ho : o.op = .call { callee := .value (.func f), args := args.toArray, argTypes := tys }) (hf : P.funcs[f]? = some fn) (hb : fn.body.isNone = false)
    (hn : (fn.name == "runtime.NumGoroutine") = false) {ts ts' : List TS} (hx : opds st args = some ts) (hs : Snaps st ts ts') {x : Value} (hp : plain x = true) {R : Res → Prop} (hc : FunK P w0 g0 f ts' R)
    (hr : ∀ r, R r → ∀ k, r.val k = V x) (hq : TQ P w0 g0 ops rest (st.put o.dst (V x)) Q) : TQ P w0 g0 ops (o :: rest) st Q := fun a w g hR Q' hQ => by
  refine wpQuiet_step fun K hK => ?_
  rw [if_pos (by simp [Region.wanted, hg])]
  refine ⟨x, fun w' hw' => ?_, hK _ (hq _ _ _ (hR.put (V_mk hp) o.dst) Q' hQ)⟩
  have hR' := hR.later hw'
  have h1 := hR'.opds hx
  have h2 := hs.get
  have hcall := hc w' hR'.ks.kept { g with o := allRo w' } (args.map a.eval).toArray 0 rfl (by simp [h1.1, h2.1]) (fun i t' u hi hu => by
    obtain ⟨t, h3, h4⟩ := h2.2 i t' hi
    exact hR'.snap h4 (h1.2 i t u h3 (by simpa using hu)) _ rfl)
  unfold Oper.quietAt
  have hrun : (execOp a.eval o).run P w' = .ok (.enter f (args.map a.eval).toArray) w' := by
    have he : a.eval (.func f) = .func (.func f) #[] #[] := rfl
    have hn' : ¬ fn.name = "runtime.NumGoroutine" := by simpa using hn
    have hb' : ¬ fn.body = none := fun e => by rw [e] at hb; cases hb
    simp [execOp, ho, resolve, he, Deferred.ofValue, invoke, callFunc, hf, hn', hb']
  rw [hrun]
  refine ⟨rfl, hcall.mono fun e w'' ⟨v, r, g', he, hR1, hG⟩ => ?_⟩
  have h5 := hG.val
  rw [hr r hR1 0] at h5
  have h6 := V_inv h5
  subst h6
  exact ⟨he, hw'.trans ⟨hG.os, hG.tape, hG.output, hG.size, hG.block⟩⟩

end
end Go.Proofs.YtdlpmcjpbcbbjaaDoor.T
