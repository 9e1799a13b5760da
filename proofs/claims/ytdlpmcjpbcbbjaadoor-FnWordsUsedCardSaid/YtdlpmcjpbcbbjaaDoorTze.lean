/- The lifted walk, part ze: regions that draw their order and of which one operation, that waits for all others, writes. No condition. -/
import Derived.Test.YtdlpmcjpbcbbjaaDoorTza
namespace Go.Proofs.YtdlpmcjpbcbbjaaDoor.T
open Go
set_option linter.unusedVariables false
set_option linter.unusedSimpArgs false

/-- What waits for what, by any number of steps. -/
def reaches (md : Region.Mode) (ops : Array Oper) : Nat → Nat → Nat → Bool
  | 0, _, _ => false
  | n + 1, j, i => match ops[j]? with
    | none => false
    | some o => o.after.any fun e => Region.binds md e && (e.on == i || reaches md ops n e.on i)

/-- What is done had all that it waits for. -/
def Closed (md : Region.Mode) (ops : Array Oper) (listed : Array Bool) : Prop :=
  ∀ j o, ops[j]? = some o → listed.getD j false = true → ∀ e ∈ o.after, Region.binds md e = true → listed.getD e.on false = true

theorem Closed.set {md : Region.Mode} {ops : Array Oper} {listed : Array Bool} (h : Closed md ops listed) {i : Nat} (hi : i ∈ Region.ready md ops listed) : Closed md ops (listed.setIfInBounds i true) := fun j o ho hj e he hb => by
  by_cases hji : i = j
  · subst hji
    obtain ⟨_, o', ho', hall⟩ := mem_ready.1 hi
    rw [ho] at ho'
    cases ho'
    exact getD_set_true (hall e he hb)
  · rw [getD_set_ne false hji] at hj
    exact getD_set_true (h j o ho hj e he hb)

theorem reaches_listed {md : Region.Mode} {ops : Array Oper} {listed : Array Bool} (hc : Closed md ops listed) {i : Nat} : ∀ (n j : Nat), (∀ o, ops[j]? = some o → ∀ e ∈ o.after, Region.binds md e = true → listed.getD e.on false = true) →
    reaches md ops n j i = true → listed.getD i false = true
  | 0, j, _, h => by simp [reaches] at h
  | n + 1, j, hj, h => by
    unfold reaches at h
    cases ho : ops[j]? with
    | none => rw [ho] at h; cases h
    | some o =>
      rw [ho] at h
      simp only [Array.any_eq_true] at h
      obtain ⟨t, ht, h⟩ := h
      simp only [Bool.and_eq_true, Bool.or_eq_true, beq_iff_eq] at h
      have hl := hj o ho o.after[t] (Array.getElem_mem ht) h.1
      rcases h.2 with h2 | h2
      · rw [← h2]; exact hl
      · exact reaches_listed hc n _ (fun o' ho' e he hb => hc _ o' ho' hl e he hb) h2

def wpAnyW (P : Program) (md : Region.Mode) (ops : Array Oper) (Q : Exit → Act → World → Prop) (wr : Nat) : Nat → Array Bool → Act → World → Prop
  | 0, listed, a, w => Region.ready md ops listed = [] ∧ Q .normal a w
  | fuel + 1, listed, a, w => (Region.ready md ops listed = [] → Q .normal a w) ∧ ∀ i ∈ Region.ready md ops listed,
      if i = wr then wpOp P ops Q i (wpAnyW P md ops Q wr fuel (listed.setIfInBounds i true)) a w else mOp P ops i (wpAnyW P md ops Q wr fuel (listed.setIfInBounds i true)) a w

section
variable {P : Program} {ops : Array Oper} {md : Region.Mode} {Q : Exit → Act → World → Prop} {wr : Nat}

theorem wpOp_mono' {i : Nat} {a : Act} {w : World} {K K' : Act → World → Prop} (h : ∀ a w, K a w → K' a w) (hh : wpOp P ops Q i K a w) : wpOp P ops Q i K' a w := by
  unfold wpOp at *
  split
  · rename_i ho; simp only [ho] at hh; exact h _ _ hh
  · rename_i o ho
    simp only [ho] at hh
    split
    · rename_i hw
      simp only [hw, if_true] at hh
      rcases hh with hh | hh
      · exact .inl (Oper.wp_mono h hh)
      · exact .inr hh
    · rename_i hw; simp only [hw] at hh; exact h _ _ hh

theorem wpAny_of_W : ∀ (fuel : Nat) (listed : Array Bool) (a : Act) (w : World), wpAnyW P md ops Q wr fuel listed a w → wpAny P md ops Q fuel listed a w
  | 0, _, _, _, h => h
  | fuel + 1, _, _, _, h => ⟨h.1, fun i hi => by
    have h1 := h.2 i hi
    split at h1
    · exact wpOp_mono' (fun a' w' => wpAny_of_W fuel _ a' w') h1
    · exact mOp_wp (fun a' w' => wpAny_of_W fuel _ a' w') h1⟩

theorem wpAnyW_first {i : Nat} {oi : Oper} {v : Value} (hi : ops[i]? = some oi) (hsel : ∀ (j : Nat) (o : Oper) cs b, ops[j]? = some o → o.op ≠ .select cs b) (hne : i ≠ wr) {n : Nat} (hre : reaches md ops n wr i = true) :
    ∀ (fuel : Nat) (listed : Array Bool) (a : Act) (w : World), Closed md ops listed →
      (∀ j oj, ops[j]? = some oj → j ≠ i → listed.getD j true = false → (∀ e ∈ oj.after, Region.binds md e = true → e.on ≠ i) → oi.apart ops oj = true) →
      i ∈ Region.ready md ops listed → YV P ops oi v a w →
      wpAnyW P md ops Q wr fuel (listed.setIfInBounds i true) (a.put oi.dst v) w → wpAnyW P md ops Q wr (fuel + 1) listed a w := by
  intro fuel
  induction fuel with
  | zero =>
    intro listed a w _ _ hr hy H
    refine ⟨fun h => (by rw [h] at hr; cases hr), fun j hj => ?_⟩
    by_cases hji : j = i
    · subst hji; rw [if_neg hne]; exact hy.mOp hi H
    · have := ready_mono hj hji
      rw [H.1] at this
      cases this
  | succ fuel ih =>
    intro listed a w hcl hfree hr hy H
    refine ⟨fun h => (by rw [h] at hr; cases hr), fun j hj => ?_⟩
    by_cases hji : j = i
    · subst hji; rw [if_neg hne]; exact hy.mOp hi H
    · have hjw : j ≠ wr := fun e => by
        subst e
        obtain ⟨_, o', ho', hall⟩ := mem_ready.1 hj
        have h1 := reaches_listed hcl n j (fun o ho e he hb => by rw [ho'] at ho; cases ho; exact hall e he hb) hre
        have h0 := (mem_ready.1 hr).1
        rcases Nat.lt_or_ge i listed.size with h' | h'
        · simp [h'] at h0 h1; rw [h0] at h1; cases h1
        · simp [Array.getElem?_eq_none h'] at h1
      rw [if_neg hjw]
      have h1 := H.2 j (ready_mono hj hji)
      rw [if_neg hjw] at h1
      obtain ⟨hjun, oj, hoj, hall⟩ := mem_ready.1 hj
      have hnot : ∀ e ∈ oj.after, Region.binds md e = true → e.on ≠ i := fun e he hb heq => by
        have h1 := hall e he hb
        have h0 := (mem_ready.1 hr).1
        rw [heq] at h1
        rcases Nat.lt_or_ge i listed.size with h' | h'
        · simp [h'] at h0 h1; rw [h0] at h1; cases h1
        · simp [Array.getElem?_eq_none h'] at h1
      have h2 := mOp_put hoj (hfree j oj hoj hji hjun hnot) (fun cs b => hsel i oi cs b hi) (fun cs b => hsel j oj cs b hoj) hy h1
      have hfree' : ∀ k ok, ops[k]? = some ok → k ≠ i → (listed.setIfInBounds j true).getD k true = false →
          (∀ e ∈ ok.after, Region.binds md e = true → e.on ≠ i) → oi.apart ops ok = true := fun k ok hk hki hun hno => by
        refine hfree k ok hk hki ?_ hno
        by_cases hjk : j = k
        · subst hjk; exact hjun
        · rw [getD_set_ne true hjk] at hun; exact hun
      refine mOp_mono (fun a' w' h3 => ih (listed.setIfInBounds j true) a' w' (hcl.set hj) hfree' (ready_mono hr (Ne.symm hji)) h3.1 ?_) h2
      rw [Array.setIfInBounds_comm _ _ hji]
      exact h3.2
end

/-- An order in which what only reads comes as early as it can; 'true' marks what comes alone; all that is not alone is waited for by the one that writes. -/
def eagerW (ops : Array Oper) (wr : Nat) : List (Nat × Bool) → Array Bool → Bool
  | [], listed => (Region.ready .any ops listed).isEmpty
  | (i, b) :: l, listed => (if b then Region.ready .any ops listed == [i] else (Region.ready .any ops listed).contains i && Region.free .any ops listed i && i != wr && reaches .any ops ops.size wr i) && eagerW ops wr l (listed.setIfInBounds i true)
def eagerWB (ops : Array Oper) (wr : Nat) (l : List (Nat × Bool)) : Bool := Region.noSelect ops && l.length == ops.size && eagerW ops wr l (Array.replicate ops.size false)

section
variable {P : Program} {w0 : World} {g0 : Gh} {st : St}

def TW (P : Program) (w0 : World) (g0 : Gh) (ops : Array Oper) (wr : Nat) (l : List (Nat × Bool)) (st : St) (Q : St → Prop) : Prop :=
  ∀ listed, Region.noSelect ops = true → Closed .any ops listed → eagerW ops wr l listed = true → ∀ a w g, Rel w0 g0 st a w g → ∀ (Q' : Exit → Act → World → Prop), (∀ st' a' w' g', Q st' → Rel w0 g0 st' a' w' g' → Q' .normal a' w') →
    wpAnyW P .any ops Q' wr l.length listed a w

theorem TC.regionW {i : Nat} {ops : Array Oper} {Q : Exit → St → Prop} (wr : Nat) (l : List (Nat × Bool)) (hm : P.follows .mixedOrders = true) (hB : eagerWB ops wr l = true) (h : TW P w0 g0 ops wr l st (fun st' => Q .normal st')) :
    TC P w0 g0 (.region i ops true) st Q := fun a w g hR => by
  simp only [eagerWB, Bool.and_eq_true, beq_iff_eq] at hB
  obtain ⟨⟨h1, h2⟩, h3⟩ := hB
  have hR' : Rel w0 g0 st a { w with drawn := w.drawn + 1 } g := hR.drew
  refine wp_region_any hm (wpAny_of_W (wr := wr) _ _ _ _ ?_)
  rw [← h2] at h3 ⊢
  refine h _ h1 (fun j o ho hj => ?_) (by rw [h2] at h3 ⊢; exact h3) a _ g hR' _ fun st' a' w' g' hq hr => ⟨st', g', hq, hr⟩
  simp [Array.getElem?_replicate] at hj
  split at hj <;> simp at hj

theorem TW.nil {ops : Array Oper} {wr : Nat} {Q : St → Prop} (h : Q st) : TW P w0 g0 ops wr [] st Q := fun listed hs hc he a w g hR Q' hQ =>
  ⟨by simpa [eagerW, List.isEmpty_iff] using he, hQ st a w g h hR⟩

theorem TW.quiet {ops : Array Oper} {wr i : Nat} {b : Bool} {l : List (Nat × Bool)} {st' : St} {Q : St → Prop} {o : Oper} {tl : List Oper} (hne : i ≠ wr) (hd0 : ops.toList.drop i = o :: tl)
    (h : ∀ a w g, Rel w0 g0 st a w g → ∃ v, YV P ops o v a w ∧ Rel w0 g0 st' (a.put o.dst v) w g) (hq : TW P w0 g0 ops wr l st' Q) : TW P w0 g0 ops wr ((i, b) :: l) st Q := fun listed hs hc he a w g hR Q' hQ => by
  have hi := at_drop hd0
  simp only [eagerW, Bool.and_eq_true] at he
  obtain ⟨h1, h2⟩ := he
  obtain ⟨v, hy, hR'⟩ := h a w g hR
  cases b
  · simp only [Bool.false_eq_true, if_false, Bool.and_eq_true] at h1
    have hri : i ∈ Region.ready .any ops listed := by simpa using h1.1.1.1
    have hnext := hq (listed.setIfInBounds i true) hs (hc.set hri) h2 _ w g hR' Q' hQ
    exact wpAnyW_first hi (Region.noSelect_spec hs) hne h1.2 _ listed a w hc (Region.free_spec hi h1.1.1.2) hri hy hnext
  · simp only [if_true, beq_iff_eq] at h1
    have hri : i ∈ Region.ready .any ops listed := by rw [h1]; exact List.mem_singleton.2 rfl
    have hnext := hq (listed.setIfInBounds i true) hs (hc.set hri) h2 _ w g hR' Q' hQ
    refine ⟨fun h0 => (by rw [h1] at h0; cases h0), fun j hj => ?_⟩
    rw [h1] at hj
    rw [List.mem_singleton.1 hj, if_neg hne]
    exact hy.mOp hi hnext

theorem TW.valE {ops : Array Oper} {wr i : Nat} {b : Bool} {l : List (Nat × Bool)} {st' : St} {Q : St → Prop} {o : Oper} {t : TS} {tl : List Oper} (hne : i ≠ wr) (hd0 : ops.toList.drop i = o :: tl) (hg : yes ops st o) (h : Val P w0 g0 o st t) (hp : st.put o.dst t = st')
    (hq : TW P w0 g0 ops wr l st' Q) : TW P w0 g0 ops wr ((i, b) :: l) st Q := TW.quiet hne hd0 (fun a w g hR => by
  obtain ⟨v, hr, hv⟩ := h a w g hR
  exact ⟨v, .inl ⟨yes_of hg hR, fun w' hw' => hr w' hw'.2.2.2.2⟩, hp ▸ hR.put hv o.dst⟩) hq

theorem TW.opM {ops : Array Oper} {wr i : Nat} {l : List (Nat × Bool)} {Q : St → Prop} {o : Oper} {tl : List Oper} (hne : i ≠ wr) (hd0 : ops.toList.drop i = o :: tl) (hg : yes ops st o)
    (h : ∀ K : St → Prop, (∀ st', TW P w0 g0 ops wr l st' Q → K st') → OpM P w0 g0 o st K) : TW P w0 g0 ops wr ((i, true) :: l) st Q := fun listed hs hc he a w g hR Q' hQ => by
  have hi := at_drop hd0
  simp only [eagerW, Bool.and_eq_true, if_true, beq_iff_eq] at he
  have h1 := he.1
  have hri : i ∈ Region.ready .any ops listed := by rw [h1]; exact List.mem_singleton.2 rfl
  refine ⟨fun h0 => (by rw [h1] at h0; cases h0), fun j hj => ?_⟩
  rw [h1] at hj
  rw [List.mem_singleton.1 hj, if_neg hne]
  unfold mOp
  simp only [hi, yes_of hg hR, if_true]
  exact h _ (fun _ h => h) a w g hR _ fun st' a' w' g' hq hR' => hq _ hs (hc.set hri) he.2 a' w' g' hR' Q' hQ

/-- The one that writes; it comes last. -/
theorem TW.last {ops : Array Oper} {wr : Nat} {l : List (Nat × Bool)} {Q : St → Prop} {o : Oper} {tl : List Oper} (hd0 : ops.toList.drop wr = o :: tl) (hg : yes ops st o)
    (h : ∀ K : St → Prop, (∀ st', TW P w0 g0 ops wr l st' Q → K st') → OpT P w0 g0 o st K) : TW P w0 g0 ops wr ((wr, true) :: l) st Q := fun listed hs hc he a w g hR Q' hQ => by
  have hi := at_drop hd0
  simp only [eagerW, Bool.and_eq_true, if_true, beq_iff_eq] at he
  have h1 := he.1
  have hri : wr ∈ Region.ready .any ops listed := by rw [h1]; exact List.mem_singleton.2 rfl
  refine ⟨fun h0 => (by rw [h1] at h0; cases h0), fun j hj => ?_⟩
  rw [h1] at hj
  rw [List.mem_singleton.1 hj, if_pos rfl]
  unfold wpOp
  simp only [hi, yes_of hg hR, if_true]
  exact .inl (h _ (fun _ h => h) a w g hR _ _ fun st' a' w' g' hq hR' => hq _ hs (hc.set hri) he.2 a' w' g' hR' Q' hQ)

theorem OpM.callF {o : Oper} {st' : St} {Q : St → Prop} {f : FuncId} {cx : Operand} {args : List Operand} {tys : Array TypeId} {fn : Func}
    (ho : o.op = .call { callee := .value cx, args := args.toArray, argTypes := tys }) (hcx : T.opd 0 st cx = some (.fn f [])) (hf : P.funcs[f]? = some fn) (hb : fn.body.isNone = false)
    (hn : (fn.name == "runtime.NumGoroutine") = false) {ts ts' : List TS} (hx : opds st args = some ts) {t : TS} {x : Value} (hc : FunK P w0 g0 f ts' (RP t)) (hs : Snaps st ts ts') (hp : freeS t = some x)
    (hpt : st.put o.dst t = st') (hq : Q st') : OpM P w0 g0 o st Q := fun a w g hR K' hK' => by
  have h1 := hR.opds hx
  have h2 := hs.get
  have hcall := hc w hR.ks.kept { g with o := allRo w } (args.map a.eval).toArray 0 rfl (by simp [h1.1, h2.1]) (fun i t' u hi hu => by
    obtain ⟨t, h3, h4⟩ := h2.2 i t' hi
    exact hR.snap h4 (h1.2 i t u h3 (by simpa using hu)) _ rfl)
  rw [run_enter hR ho hcx hf hb hn w]
  refine ⟨Later.refl w, hcall.mono fun e w' ⟨v, r, g', he, hr, hG⟩ => ?_⟩
  have h5 := hG.val
  rw [hr] at h5
  have h6 := (freeS_inv hp).1 h5
  subst h6
  exact ⟨v, he, hG.later, hK' _ _ _ _ hq (hpt ▸ (hR.later hG.later).put ((freeS_inv hp).2 rfl) o.dst)⟩
end
end Go.Proofs.YtdlpmcjpbcbbjaaDoor.T
