/- The lifted walk, part x: regions that draw their order and hold calls that make new memory: what only reads comes first. No condition. -/
import Derived.Test.YtdlpmcjpbcbbjaaDoorTw
import Derived.Orders
namespace Go.Proofs.YtdlpmcjpbcbbjaaDoor.T
open Go
set_option linter.unusedVariables false
set_option linter.unusedSimpArgs false

theorem Later.refl (w : World) : Later w w := ⟨rfl, rfl, rfl, Nat.le_refl _, fun _ _ => rfl⟩

/-- An operation that leaves alone what was there. -/
def mUpon (P : Program) (o : Oper) (a : Act) (w : World) (next : Act → World → Prop) : Result Next → Prop
  | .ok (.value v) w' => Later w w' ∧ next (a.put o.dst v) w'
  | .ok .skip w' => Later w w' ∧ next (a.put o.dst undef) w'
  | .ok (.enter f args) w' => Later w w' ∧ Calls P f args w' fun e w'' => ∃ v, e = .returned v ∧ Later w w'' ∧ next (a.put o.dst v) w''
  | _ => False

def mOp (P : Program) (ops : Array Oper) (i : Nat) (K : Act → World → Prop) (a : Act) (w : World) : Prop :=
  match ops[i]? with
  | none => K a w
  | some o => if Region.wanted o (yielded ops a.tmps) then mUpon P o a w K ((execOp a.eval o).run P w) else K (a.put o.dst undef) w

def wpAnyM (P : Program) (md : Region.Mode) (ops : Array Oper) (Q : Exit → Act → World → Prop) : Nat → Array Bool → Act → World → Prop
  | 0, listed, a, w => Region.ready md ops listed = [] ∧ Q .normal a w
  | fuel + 1, listed, a, w => (Region.ready md ops listed = [] → Q .normal a w) ∧ ∀ i ∈ Region.ready md ops listed, mOp P ops i (wpAnyM P md ops Q fuel (listed.setIfInBounds i true)) a w

section
variable {P : Program} {ops : Array Oper} {md : Region.Mode} {Q : Exit → Act → World → Prop}

theorem mUpon_mono {o : Oper} {a : Act} {w : World} {K K' : Act → World → Prop} (h : ∀ a w, K a w → K' a w) : ∀ {r : Result Next}, mUpon P o a w K r → mUpon P o a w K' r
  | .ok (.value v) w', hh => ⟨hh.1, h _ _ hh.2⟩
  | .ok .skip w', hh => ⟨hh.1, h _ _ hh.2⟩
  | .ok (.enter f args) w', hh => ⟨hh.1, hh.2.mono fun e w'' ⟨v, h1, h2, h3⟩ => ⟨v, h1, h2, h _ _ h3⟩⟩
  | .ok (.defer d) w', hh => hh.elim
  | .ok (.row r args) w', hh => hh.elim
  | .halt x w', hh => hh.elim

theorem mOp_wp {i : Nat} {a : Act} {w : World} {K K' : Act → World → Prop} (h : ∀ a w, K a w → K' a w) (hh : mOp P ops i K a w) : wpOp P ops Q i K' a w := by
  unfold mOp at hh
  unfold wpOp
  split
  · rename_i ho; simp only [ho] at hh; exact h _ _ hh
  · rename_i o ho
    simp only [ho] at hh
    split
    · rename_i hw
      simp only [hw, if_true] at hh
      refine .inl ?_
      unfold Oper.wp
      generalize (execOp a.eval o).run P w = r at *
      cases r with
      | ok n w' =>
        cases n <;> simp only [mUpon] at hh <;> simp only [Oper.upon]
        case value v => exact h _ _ hh.2
        case skip => exact h _ _ hh.2
        case enter f args =>
          exact hh.2.mono fun e w'' ⟨v, h1, h2, h3⟩ => by subst h1; exact h _ _ h3
      | halt x w' => exact hh.elim
    · rename_i hw; simp only [hw] at hh; exact h _ _ hh

theorem wpAny_of_M : ∀ (fuel : Nat) (listed : Array Bool) (a : Act) (w : World), wpAnyM P md ops Q fuel listed a w → wpAny P md ops Q fuel listed a w
  | 0, _, _, _, h => h
  | fuel + 1, _, _, _, h => ⟨h.1, fun i hi => mOp_wp (fun a' w' => wpAny_of_M fuel _ a' w') (h.2 i hi)⟩

/-- In every later world the operation yields this value and leaves the world. -/
def YV (P : Program) (ops : Array Oper) (o : Oper) (v : Value) (a : Act) (w : World) : Prop :=
  (Region.wanted o (yielded ops a.tmps) = true ∧ ∀ w', Later w w' → (execOp a.eval o).run P w' = .ok (.value v) w') ∨ (Region.wanted o (yielded ops a.tmps) = false ∧ v = undef)

theorem YV.later {o : Oper} {v : Value} {a : Act} {w w' : World} (h : YV P ops o v a w) (hw : Later w w') : YV P ops o v a w' := by
  rcases h with ⟨h1, h2⟩ | h
  · exact .inl ⟨h1, fun w'' h3 => h2 w'' (hw.trans h3)⟩
  · exact .inr h

theorem YV.mOp {i : Nat} {o : Oper} {v : Value} {a : Act} {w : World} (hi : ops[i]? = some o) (hy : YV P ops o v a w) {K : Act → World → Prop} (h : K (a.put o.dst v) w) : mOp P ops i K a w := by
  unfold T.mOp
  simp only [hi]
  rcases hy with ⟨hw, hv⟩ | ⟨hw, rfl⟩
  · simp only [hw, if_true, hv w (Later.refl w)]
    exact ⟨Later.refl w, h⟩
  · simp only [hw, Bool.false_eq_true, if_false]; exact h

theorem mOp_put {j : Nat} {oi oj : Oper} {v : Value} (hj : ops[j]? = some oj) (hap : oi.apart ops oj = true) (hsi : ∀ cs b, oi.op ≠ .select cs b) (hsj : ∀ cs b, oj.op ≠ .select cs b)
    {K : Act → World → Prop} {a : Act} {w : World} (hy : YV P ops oi v a w) (h : mOp P ops j K (a.put oi.dst v) w) : mOp P ops j (fun a' w' => YV P ops oi v a' w' ∧ K (a'.put oi.dst v) w') a w := by
  obtain ⟨h1, h2, h3⟩ := Oper.apart_spec hap
  have keep : ∀ u w', Later w w' → YV P ops oi v (a.put oj.dst u) w' := fun u w' hw' => by
    have := hy.later hw'
    unfold YV at *
    rw [execOp_put oi hsi a oj.dst u h3, wanted_put oi a oj.dst u h3]
    exact this
  unfold mOp at *
  simp only [hj] at *
  rw [wanted_put oj a oi.dst v h1] at h
  split
  · rename_i hw
    simp only [hw, if_true] at h
    rw [execOp_put oj hsj a oi.dst v h1] at h
    generalize (execOp a.eval oj).run P w = r at *
    cases r with
    | ok n w' =>
      cases n <;> simp only [mUpon] at h ⊢
      case value u => exact ⟨h.1, keep u _ h.1, by rw [← Act.put_comm a v u h2]; exact h.2⟩
      case skip => exact ⟨h.1, keep _ _ h.1, by rw [← Act.put_comm a v undef h2]; exact h.2⟩
      case enter f args => exact ⟨h.1, h.2.mono fun e w'' ⟨u, e1, e2, e3⟩ => ⟨u, e1, e2, keep u _ e2, by rw [← Act.put_comm a v u h2]; exact e3⟩⟩
    | halt x w' => exact h.elim
  · rename_i hw
    simp only [hw] at h
    exact ⟨keep _ _ (Later.refl w), by rw [← Act.put_comm a v undef h2]; exact h⟩

theorem mOp_mono {i : Nat} {a : Act} {w : World} {K K' : Act → World → Prop} (h : ∀ a w, K a w → K' a w) (hh : mOp P ops i K a w) : mOp P ops i K' a w := by
  unfold mOp at *
  split
  · exact h _ _ (by simpa [*] using hh)
  · rename_i o ho
    simp only [ho] at hh
    split
    · rename_i hw; simp only [hw, if_true] at hh; exact mUpon_mono h hh
    · rename_i hw; simp only [hw] at hh; exact h _ _ hh

theorem wpAnyM_first {i : Nat} {oi : Oper} {v : Value} (hi : ops[i]? = some oi) (hsel : ∀ (j : Nat) (o : Oper) cs b, ops[j]? = some o → o.op ≠ .select cs b) :
    ∀ (fuel : Nat) (listed : Array Bool) (a : Act) (w : World),
      (∀ j oj, ops[j]? = some oj → j ≠ i → listed.getD j true = false → (∀ e ∈ oj.after, Region.binds md e = true → e.on ≠ i) → oi.apart ops oj = true) →
      i ∈ Region.ready md ops listed → YV P ops oi v a w →
      wpAnyM P md ops Q fuel (listed.setIfInBounds i true) (a.put oi.dst v) w → wpAnyM P md ops Q (fuel + 1) listed a w := by
  intro fuel
  induction fuel with
  | zero =>
    intro listed a w _ hr hy H
    refine ⟨fun h => (by rw [h] at hr; cases hr), fun j hj => ?_⟩
    by_cases hji : j = i
    · subst hji; exact hy.mOp hi H
    · have := ready_mono hj hji
      rw [H.1] at this
      cases this
  | succ fuel ih =>
    intro listed a w hfree hr hy H
    refine ⟨fun h => (by rw [h] at hr; cases hr), fun j hj => ?_⟩
    by_cases hji : j = i
    · subst hji; exact hy.mOp hi H
    · have h1 := H.2 j (ready_mono hj hji)
      obtain ⟨hjun, oj, hoj, hall⟩ := mem_ready.1 hj
      have hnot : ∀ e ∈ oj.after, Region.binds md e = true → e.on ≠ i := fun e he hb heq => by
        have h1 := hall e he hb
        have h0 := (mem_ready.1 hr).1
        rw [heq] at h1
        rcases Nat.lt_or_ge i listed.size with h' | h'
        · simp [h'] at h0 h1; rw [h0] at h1; cases h1
        · simp [Array.getElem?_eq_none h'] at h1
      have h2 := mOp_put hoj (hfree j oj hoj hji hjun hnot) (fun cs b => hsel i oi cs b hi) (fun cs b => hsel j oj cs b hoj) hy h1
      have hfree' : ∀ k ok, ops[k]? = some ok → k ≠ i → (listed.setIfInBounds j true).getD k true = false →
          (∀ e ∈ ok.after, Region.binds md e = true → e.on ≠ i) → oi.apart ops ok = true := fun k ok hk hki hun hno => by
        refine hfree k ok hk hki ?_ hno
        by_cases hjk : j = k
        · subst hjk; exact hjun
        · rw [getD_set_ne true hjk] at hun; exact hun
      refine mOp_mono (fun a' w' h3 => ih (listed.setIfInBounds j true) a' w' hfree' (ready_mono hr (Ne.symm hji)) h3.1 ?_) h2
      rw [Array.setIfInBounds_comm _ _ hji]
      exact h3.2

theorem wpAnyM_only {i fuel : Nat} {listed : Array Bool} {a : Act} {w : World} (hr : Region.ready md ops listed = [i]) (h : mOp P ops i (wpAnyM P md ops Q fuel (listed.setIfInBounds i true)) a w) :
    wpAnyM P md ops Q (fuel + 1) listed a w :=
  ⟨fun h0 => (by rw [hr] at h0; cases h0), fun j hj => by rw [hr] at hj; rw [List.mem_singleton.1 hj]; exact h⟩
end

/-- An order in which what only reads comes as early as it can; 'true' marks what comes alone. -/
def eager (ops : Array Oper) : List (Nat × Bool) → Array Bool → Bool
  | [], listed => (Region.ready .any ops listed).isEmpty
  | (i, b) :: l, listed => (if b then Region.ready .any ops listed == [i] else (Region.ready .any ops listed).contains i && Region.free .any ops listed i) && eager ops l (listed.setIfInBounds i true)

def eagerB (ops : Array Oper) (l : List (Nat × Bool)) : Bool := Region.noSelect ops && l.length == ops.size && eager ops l (Array.replicate ops.size false)

section
variable {P : Program} {w0 : World} {g0 : Gh} {st : St}

/-- The walk of a region in an eager order. -/
def TX (P : Program) (w0 : World) (g0 : Gh) (ops : Array Oper) (l : List (Nat × Bool)) (st : St) (Q : St → Prop) : Prop :=
  ∀ listed, Region.noSelect ops = true → eager ops l listed = true → ∀ a w g, Rel w0 g0 st a w g → ∀ (Q' : Exit → Act → World → Prop), (∀ st' a' w' g', Q st' → Rel w0 g0 st' a' w' g' → Q' .normal a' w') →
    wpAnyM P .any ops Q' l.length listed a w

theorem TC.regionX {i : Nat} {ops : Array Oper} {Q : Exit → St → Prop} (l : List (Nat × Bool)) (hm : P.follows .mixedOrders = true) (hB : eagerB ops l = true) (h : TX P w0 g0 ops l st (fun st' => Q .normal st')) :
    TC P w0 g0 (.region i ops true) st Q := fun a w g hR => by
  simp only [eagerB, Bool.and_eq_true, beq_iff_eq] at hB
  obtain ⟨⟨h1, h2⟩, h3⟩ := hB
  have hR' : Rel w0 g0 st a { w with drawn := w.drawn + 1 } g := hR.drew
  refine wp_region_any hm (wpAny_of_M _ _ _ _ ?_)
  rw [← h2] at h3 ⊢
  exact h _ h1 (by rw [h2] at h3 ⊢; exact h3) a _ g hR' _ fun st' a' w' g' hq hr => ⟨st', g', hq, hr⟩

theorem TX.nil {ops : Array Oper} {Q : St → Prop} (h : Q st) : TX P w0 g0 ops [] st Q := fun listed hs he a w g hR Q' hQ =>
  ⟨by simpa [eager, List.isEmpty_iff] using he, hQ st a w g h hR⟩

theorem at_drop {ops : Array Oper} {i : Nat} {o : Oper} {tl : List Oper} (h : ops.toList.drop i = o :: tl) : ops[i]? = some o := by
  have := congrArg (·[0]?) h
  simpa using this

theorem TX.quiet {ops : Array Oper} {i : Nat} {b : Bool} {l : List (Nat × Bool)} {st' : St} {Q : St → Prop} {o : Oper} {tl : List Oper} (hd0 : ops.toList.drop i = o :: tl)
    (h : ∀ a w g, Rel w0 g0 st a w g → ∃ v, YV P ops o v a w ∧ Rel w0 g0 st' (a.put o.dst v) w g) (hq : TX P w0 g0 ops l st' Q) : TX P w0 g0 ops ((i, b) :: l) st Q := fun listed hs he a w g hR Q' hQ => by
  have hi := at_drop hd0
  simp only [eager, Bool.and_eq_true] at he
  obtain ⟨h1, h2⟩ := he
  obtain ⟨v, hy, hR'⟩ := h a w g hR
  have hnext := hq (listed.setIfInBounds i true) hs h2 _ w g hR' Q' hQ
  cases b
  · simp only [Bool.false_eq_true, if_false, Bool.and_eq_true] at h1
    exact wpAnyM_first hi (Region.noSelect_spec hs) _ listed a w (Region.free_spec hi h1.2) (by simpa using h1.1) hy hnext
  · simp only [if_true, beq_iff_eq] at h1
    exact wpAnyM_only h1 (hy.mOp hi hnext)

theorem TX.valE {ops : Array Oper} {i : Nat} {b : Bool} {l : List (Nat × Bool)} {st' : St} {Q : St → Prop} {o : Oper} {t : TS} {tl : List Oper} (hd0 : ops.toList.drop i = o :: tl) (hg : yes ops st o) (h : Val P w0 g0 o st t) (hp : st.put o.dst t = st')
    (hq : TX P w0 g0 ops l st' Q) : TX P w0 g0 ops ((i, b) :: l) st Q := TX.quiet hd0 (fun a w g hR => by
  obtain ⟨v, hr, hv⟩ := h a w g hR
  exact ⟨v, .inl ⟨yes_of hg hR, fun w' hw' => hr w' hw'.2.2.2.2⟩, hp ▸ hR.put hv o.dst⟩) hq

theorem TX.guardN {ops : Array Oper} {i : Nat} {b : Bool} {l : List (Nat × Bool)} {st' : St} {Q : St → Prop} {o : Oper} {j : Nat} {want c : Bool} {tl : List Oper} (hd0 : ops.toList.drop i = o :: tl) (hg : o.guard = some (j, want))
    (hb : guardOf ops st j = some (V (.bool c))) (he : c = !want) (hp : st.put o.dst (.one .dead) = st') (hq : TX P w0 g0 ops l st' Q) : TX P w0 g0 ops ((i, b) :: l) st Q := TX.quiet hd0 (fun a w g hR =>
  ⟨undef, .inr ⟨by simp [Region.wanted, hg, yielded_of hR hb, he], rfl⟩, hp ▸ hR.put (.one _ _ (.dead _)) o.dst⟩) hq

/-- An operation that makes new memory and leaves alone what was there. -/
def OpM (P : Program) (w0 : World) (g0 : Gh) (o : Oper) (st : St) (Q : St → Prop) : Prop :=
  ∀ a w g, Rel w0 g0 st a w g → ∀ K : Act → World → Prop, (∀ st' a' w' g', Q st' → Rel w0 g0 st' a' w' g' → K a' w') → mUpon P o a w K ((execOp a.eval o).run P w)

theorem TX.opM {ops : Array Oper} {i : Nat} {l : List (Nat × Bool)} {Q : St → Prop} {o : Oper} {tl : List Oper} (hd0 : ops.toList.drop i = o :: tl) (hg : yes ops st o)
    (h : ∀ K : St → Prop, (∀ st', TX P w0 g0 ops l st' Q → K st') → OpM P w0 g0 o st K) : TX P w0 g0 ops ((i, true) :: l) st Q := fun listed hs he a w g hR Q' hQ => by
  have hi := at_drop hd0
  simp only [eager, Bool.and_eq_true, if_true, beq_iff_eq] at he
  refine wpAnyM_only he.1 ?_
  unfold mOp
  simp only [hi, yes_of hg hR, if_true]
  exact h _ (fun _ h => h) a w g hR _ fun st' a' w' g' hq hR' => hq _ hs he.2 a' w' g' hR' Q' hQ

theorem TX.splitG {ops : Array Oper} {l : List (Nat × Bool)} {Q : St → Prop} {b : Bool} (j : Nat) (hb : guardOf ops st j = some (V (.bool b))) (h1 : b = true → TX P w0 g0 ops l st Q) (h2 : b = false → TX P w0 g0 ops l st Q) :
    TX P w0 g0 ops l st Q := by
  cases b
  · exact h2 rfl
  · exact h1 rfl

theorem Gives.later {w w' : World} {k : Nat} {r : Res} {v : Value} {g' : Gh} (h : Gives w k r v w' g') : Later w w' := ⟨h.os, h.tape, h.output, h.size, h.block⟩

theorem OpM.call {o : Oper} {Q : St → Prop} {f : FuncId} {cx : Operand} {args : List Operand} {tys : Array TypeId} {fn : Func} (ho : o.op = .call { callee := .value cx, args := args.toArray, argTypes := tys })
    (hcx : T.opd 0 st cx = some (.fn f [])) (hf : P.funcs[f]? = some fn) (hb : fn.body.isNone = false)
    (hn : (fn.name == "runtime.NumGoroutine") = false) {k : Nat} (hd : o.dst = some k) {ts ts' : List TS} (hx : opds st args = some ts) (hs : Snaps st ts ts') {R : Res → Prop} (hc : FunK P w0 g0 f ts' R)
    (hok : ∀ r, R r → okS k r.row.length (r.val k) = true) (hq : ∀ r, R r → Q ((st.called k r).put (some k) (r.val k))) (hkp : k < 1000000 := by decide) : OpM P w0 g0 o st Q := fun a w g hR K hK => by
  have h1 := hR.opds hx
  have h2 := hs.get
  have hcall := hc w hR.ks.kept { g with o := allRo w } (args.map a.eval).toArray k rfl (by simp [h1.1, h2.1]) (fun i t' u hi hu => by
    obtain ⟨t, h3, h4⟩ := h2.2 i t' hi
    exact hR.snap h4 (h1.2 i t u h3 (by simpa using hu)) _ rfl)
  rw [run_enter hR ho hcx hf hb hn w]
  refine ⟨Later.refl w, hcall.mono fun e w' ⟨v, r, g', he, hr, hG⟩ => ?_⟩
  obtain ⟨g2, hR2, hv2⟩ := hR.called hkp hG (hok r hr)
  refine ⟨v, he, hG.later, hK _ _ _ g2 (hq r hr) ?_⟩
  rw [hd]
  exact hR2.put hv2 (some k)

theorem OpM.callL {o : Oper} {Q : St → Prop} {f : FuncId} {cx : Operand} {args : List Operand} {tys : Array TypeId} {fn : Func} (ho : o.op = .call { callee := .value cx, args := args.toArray, argTypes := tys })
    (hcx : T.opd 0 st cx = some (.fn f [])) (hf : P.funcs[f]? = some fn)
    (hb : fn.body.isNone = false) (hn : (fn.name == "runtime.NumGoroutine") = false) {k : Nat} (hd : o.dst = some k) {ts ts' : List TS} (hx : opds st args = some ts) {sz : Nat} {ds : List D} (hc : FunK P w0 g0 f ts' (RL sz ds))
    (hs : Snaps st ts ts') (hq : Q ((st.fresh k ⟨false, [.own (.sl sz ds)]⟩).put (some k) (.one (.c (.ref ⟨k, [], 0⟩))))) (hkp : k < 1000000 := by decide) : OpM P w0 g0 o st Q :=
  OpM.call ho hcx hf hb hn hd hx hs hc (fun r hr => by subst hr; simp [okS, okV, okC]) (fun r hr => by subst hr; exact hq) hkp

theorem OpM.callG {o : Oper} {Q : St → Prop} {f : FuncId} {cx : Operand} {args : List Operand} {tys : Array TypeId} {fn : Func} (ho : o.op = .call { callee := .value cx, args := args.toArray, argTypes := tys })
    (hcx : T.opd 0 st cx = some (.fn f [])) (hf : P.funcs[f]? = some fn)
    (hb : fn.body.isNone = false) (hn : (fn.name == "runtime.NumGoroutine") = false) {k : Nat} (hd : o.dst = some k) {ts ts' : List TS} (hx : opds st args = some ts) {l : List RD} (hc : FunK P w0 g0 f ts' (RG l))
    (hs : Snaps st ts ts') (hok : (cellsD l).all okD = true) (hq : Q ((st.fresh k ⟨false, ((cellsD l).filter isSl).map C.own⟩).put (some k) (resT (valsD k 0 l)))) (hkp : k < 1000000 := by decide) : OpM P w0 g0 o st Q :=
  OpM.call ho hcx hf hb hn hd hx hs hc (fun r hr => by subst hr; exact okS_resG hok) (fun r hr => by subst hr; exact hq) hkp

theorem TX.callF {ops : Array Oper} {i : Nat} {l : List (Nat × Bool)} {st' : St} {Q : St → Prop} {o : Oper} {tl : List Oper} (hd0 : ops.toList.drop i = o :: tl) (hg : yes ops st o) {f : FuncId} {cx : Operand} {args : List Operand} {tys : Array TypeId} {fn : Func}
    (ho : o.op = .call { callee := .value cx, args := args.toArray, argTypes := tys }) (hcx : T.opd 0 st cx = some (.fn f [])) (hf : P.funcs[f]? = some fn) (hb : fn.body.isNone = false)
    (hn : (fn.name == "runtime.NumGoroutine") = false) {ts ts' : List TS} (hx : opds st args = some ts) {t : TS} {x : Value} (hc : FunK P w0 g0 f ts' (RP t)) (hs : Snaps st ts ts') (hp : freeS t = some x)
    (hpt : st.put o.dst t = st') (hq : TX P w0 g0 ops l st' Q) : TX P w0 g0 ops ((i, true) :: l) st Q := TX.opM hd0 hg fun K hK a w g hR K' hK' => by
  have h1 := hR.opds hx
  have h2 := hs.get
  have hcall := hc w hR.ks.kept { g with o := allRo w } (args.map a.eval).toArray 0 rfl (by simp [h1.1, h2.1]) (fun i t' u hi hu => by
    obtain ⟨t, h3, h4⟩ := h2.2 i t' hi
    exact hR.snap h4 (h1.2 i t u h3 (by simpa using hu)) _ rfl)
  rw [run_enter hR ho hcx hf hb hn w]
  refine ⟨Later.refl w, hcall.mono fun e w' ⟨v, r, g', he, hr, hG⟩ => ?_⟩
  have h5 := hG.val
  rw [hr] at h5
  have h6 := (freeS_inv hp).1 h5
  subst h6
  exact ⟨v, he, hG.later, hK' _ _ _ _ (hK _ hq) (hpt ▸ (hR.later hG.later).put ((freeS_inv hp).2 rfl) o.dst)⟩
end
end Go.Proofs.YtdlpmcjpbcbbjaaDoor.T
