
import Derived.Test.YtcmoifejjodgcaaT3p
namespace Go.Proofs.Ytcmoifejjodgcaa.T
open Go
set_option linter.unusedVariables false
set_option linter.unusedSimpArgs false
def Pinned (s : List Nat) (a : Act) (w w' : World) : Prop := w.heap.size ≤ w'.heap.size ∧ ∀ x ∈ s, ∀ A, a.tmps.getD x undef = .pointer (some A) → A.block < w.heap.size → w'.heap[A.block]? = w.heap[A.block]?
theorem Pinned.refl (s : List Nat) (a : Act) (w : World) : Pinned s a w w := ⟨Nat.le_refl _, fun _ _ _ _ _ => rfl⟩
theorem Pinned.trans {s : List Nat} {a a' : Act} {w w' w'' : World} (h : Pinned s a w w') (ha : ∀ x ∈ s, a'.tmps.getD x undef = a.tmps.getD x undef) (h' : Pinned s a' w' w'') : Pinned s a w w'' :=
 ⟨Nat.le_trans h.1 h'.1, fun x hx A hA hlt => by rw [h'.2 x hx A (by rw [ha x hx]; exact hA) (Nat.lt_of_lt_of_le hlt h.1), h.2 x hx A hA hlt]⟩
theorem Later.pinned {s : List Nat} {a : Act} {w w' : World} (h : Later w w') : Pinned s a w w' := ⟨h.2.2.2.1, fun _ _ A _ hlt => h.2.2.2.2 _ hlt⟩
theorem put_getD {a : Act} {d : Option Nat} {v : Value} {s : Nat} (h : d ≠ some s) : (a.put d v).tmps.getD s undef = a.tmps.getD s undef := by
 cases d with
 | none => rfl
 | some d =>
  have hne : d ≠ s := fun e => h (by rw [e])
  simp only [Act.put, Array.getD_eq_getD_getElem?]
  rw [Array.getElem?_setIfInBounds_ne hne]
def mUponS (P : Program) (s : List Nat) (o : Oper) (a : Act) (w : World) (next : Act → World → Prop) : Result Next → Prop
 | .ok (.value v) w' => Pinned s a w w' ∧ next (a.put o.dst v) w'
 | .ok .skip w' => Pinned s a w w' ∧ next (a.put o.dst undef) w'
 | _ => False
def sOp (P : Program) (ops : Array Oper) (s : List Nat) (i : Nat) (K : Act → World → Prop) (a : Act) (w : World) : Prop :=
 match ops[i]? with
 | none => K a w
 | some o => if Region.wanted o (yielded ops a.tmps) then mUponS P s o a w K ((execOp a.eval o).run P w) else K (a.put o.dst undef) w
def wpAnyV (P : Program) (md : Region.Mode) (ops : Array Oper) (Q : Exit → Act → World → Prop) (ws bs s : List Nat) : Nat → Array Bool → Act → World → Prop
 | 0, listed, a, w => Region.ready md ops listed = [] ∧ Q .normal a w
 | fuel + 1, listed, a, w => (Region.ready md ops listed = [] → Q .normal a w) ∧ ∀ i ∈ Region.ready md ops listed,
   if ws.contains i = true then (if bs.contains i = true then sOp P ops s i (wpAnyV P md ops Q ws bs s fuel (listed.setIfInBounds i true)) a w else wpOp P ops Q i (wpAnyV P md ops Q ws bs s fuel (listed.setIfInBounds i true)) a w)
   else mOp P ops i (wpAnyV P md ops Q ws bs s fuel (listed.setIfInBounds i true)) a w
def YS (P : Program) (ops : Array Oper) (s : List Nat) (o : Oper) (v : Value) (a : Act) (w : World) : Prop :=
 (Region.wanted o (yielded ops a.tmps) = true ∧ ∀ w', Pinned s a w w' → (execOp a.eval o).run P w' = .ok (.value v) w') ∨ (Region.wanted o (yielded ops a.tmps) = false ∧ v = undef)
section
variable {P : Program} {ops : Array Oper} {md : Region.Mode} {Q : Exit → Act → World → Prop} {ws bs s : List Nat}
theorem sOp_wp {i : Nat} {a : Act} {w : World} {K K' : Act → World → Prop} (h : ∀ a w, K a w → K' a w) (hh : sOp P ops s i K a w) : wpOp P ops Q i K' a w := by
 unfold sOp at hh
 unfold wpOp
 split
 ·rename_i ho; simp only [ho] at hh; exact h _ _ hh
 ·rename_i o ho
  simp only [ho] at hh
  split
  ·rename_i hw
   simp only [hw, if_true] at hh
   refine .inl ?_
   unfold Oper.wp
   generalize (execOp a.eval o).run P w = r at *
   cases r with
   | ok n w' =>
    cases n <;> simp only [mUponS] at hh <;> simp only [Oper.upon]
    case value v => exact h _ _ hh.2
    case skip => exact h _ _ hh.2
   | halt x w' => exact hh.elim
  ·rename_i hw; simp only [hw] at hh; exact h _ _ hh
theorem sOp_mono {i : Nat} {a : Act} {w : World} {K K' : Act → World → Prop} (h : ∀ a w, K a w → K' a w) (hh : sOp P ops s i K a w) : sOp P ops s i K' a w := by
 unfold sOp at *
 split
 ·exact h _ _ (by simpa [*] using hh)
 ·rename_i o ho
  simp only [ho] at hh
  split
  ·rename_i hw
   simp only [hw, if_true] at hh
   generalize (execOp a.eval o).run P w = r at *
   cases r with
   | ok n w' =>
    cases n <;> simp only [mUponS] at hh ⊢
    case value v => exact ⟨hh.1, h _ _ hh.2⟩
    case skip => exact ⟨hh.1, h _ _ hh.2⟩
   | halt x w' => exact hh.elim
  ·rename_i hw; simp only [hw] at hh; exact h _ _ hh
theorem wpAny_of_V : ∀ (fuel : Nat) (listed : Array Bool) (a : Act) (w : World), wpAnyV P md ops Q ws bs s fuel listed a w → wpAny P md ops Q fuel listed a w
 | 0, _, _, _, h => h
 | fuel + 1, _, _, _, h => ⟨h.1, fun i hi => by
  have h1 := h.2 i hi
  split at h1
  ·split at h1
   ·exact sOp_wp (fun a' w' => wpAny_of_V fuel _ a' w') h1
   ·exact wpOp_mono' (fun a' w' => wpAny_of_V fuel _ a' w') h1
  ·exact mOp_wp (fun a' w' => wpAny_of_V fuel _ a' w') h1⟩
theorem not_both {l : Array Bool} {k : Nat} (h0 : l.getD k true = false) (h1 : l.getD k false = true) : False := by
 rcases Nat.lt_or_ge k l.size with h' | h'
 ·simp [h'] at h0 h1; rw [h0] at h1; cases h1
 ·simp [Array.getElem?_eq_none h'] at h1
theorem wpAnyV_first {i : Nat} {oi : Oper} {v : Value} (hi : ops[i]? = some oi) (hsel : ∀ (j : Nat) (o : Oper) cs b, ops[j]? = some o → o.op ≠ .select cs b) (hne : ws.contains i = false) {n : Nat} :
  ∀ (fuel : Nat) (listed : Array Bool) (a : Act) (w : World), Closed md ops listed → (∀ k ∈ ws, listed.getD k false = true ∨ reaches md ops n k i = true) →
   (∀ j oj, ops[j]? = some oj → j ≠ i → listed.getD j true = false → (∀ e ∈ oj.after, Region.binds md e = true → e.on ≠ i) → oi.apart ops oj = true) →
   i ∈ Region.ready md ops listed → YV P ops oi v a w →
   wpAnyV P md ops Q ws bs s fuel (listed.setIfInBounds i true) (a.put oi.dst v) w → wpAnyV P md ops Q ws bs s (fuel + 1) listed a w := by
 intro fuel
 induction fuel with
 | zero =>
  intro listed a w _ _ _ hr hy H
  refine ⟨fun h => (by rw [h] at hr; cases hr), fun j hj => ?_⟩
  by_cases hji : j = i
  ·subst hji; rw [if_neg (by rw [hne]; decide)]; exact hy.mOp hi H
  ·have := ready_mono hj hji
   rw [H.1] at this
   cases this
 | succ fuel ih =>
  intro listed a w hcl hre hfree hr hy H
  refine ⟨fun h => (by rw [h] at hr; cases hr), fun j hj => ?_⟩
  by_cases hji : j = i
  ·subst hji; rw [if_neg (by rw [hne]; decide)]; exact hy.mOp hi H
  ·obtain ⟨hjun, oj, hoj, hall⟩ := mem_ready.1 hj
   have h0 := (mem_ready.1 hr).1
   have hjw : ws.contains j = false := by
    rw [Bool.eq_false_iff]
    intro e
    have hjm : j ∈ ws := by simpa using e
    rcases hre j hjm with h1 | h1
    ·exact not_both hjun h1
    ·exact not_both h0 (reaches_listed hcl n j (fun o ho e he hb => by rw [hoj] at ho; cases ho; exact hall e he hb) h1)
   rw [if_neg (by rw [hjw]; decide)]
   have h1 := H.2 j (ready_mono hj hji)
   rw [if_neg (by rw [hjw]; decide)] at h1
   have hnot : ∀ e ∈ oj.after, Region.binds md e = true → e.on ≠ i := fun e he hb heq => by
    have h1 := hall e he hb
    rw [heq] at h1
    exact not_both h0 h1
   have h2 := mOp_put hoj (hfree j oj hoj hji hjun hnot) (fun cs b => hsel i oi cs b hi) (fun cs b => hsel j oj cs b hoj) hy h1
   have hfree' : ∀ k ok, ops[k]? = some ok → k ≠ i → (listed.setIfInBounds j true).getD k true = false →
     (∀ e ∈ ok.after, Region.binds md e = true → e.on ≠ i) → oi.apart ops ok = true := fun k ok hk hki hun hno => by
    refine hfree k ok hk hki ?_ hno
    by_cases hjk : j = k
    ·subst hjk; exact hjun
    ·rw [getD_set_ne true hjk] at hun; exact hun
   refine mOp_mono (fun a' w' h3 => ih (listed.setIfInBounds j true) a' w' (hcl.set hj) (fun k hk => (hre k hk).imp (fun h => getD_set_true h) id) hfree' (ready_mono hr (Ne.symm hji)) h3.1 ?_) h2
   rw [Array.setIfInBounds_comm _ _ hji]
   exact h3.2
theorem YS.run {i : Nat} {o : Oper} {v : Value} {a : Act} {w : World} (hi : ops[i]? = some o) (hy : YS P ops s o v a w) {K : Act → World → Prop} (h : K (a.put o.dst v) w) : mOp P ops i K a w := by
 unfold T.mOp
 simp only [hi]
 rcases hy with ⟨hw, hv⟩ | ⟨hw, rfl⟩
 ·simp only [hw, if_true, hv w (Pinned.refl s a w)]
  exact ⟨Later.refl w, h⟩
 ·simp only [hw, Bool.false_eq_true, if_false]; exact h
theorem keepS {oi oj : Oper} {v : Value} (hap : oi.apart ops oj = true) (hsi : ∀ cs b, oi.op ≠ .select cs b) (hdj : ∀ x ∈ s, oj.dst ≠ some x) {a : Act} {w : World} (hy : YS P ops s oi v a w) (u : Value) (w' : World) (hw' : Pinned s a w w') : YS P ops s oi v (a.put oj.dst u) w' := by
 obtain ⟨h1, h2, h3⟩ := Oper.apart_spec hap
 unfold YS at *
 rw [execOp_put oi hsi a oj.dst u h3, wanted_put oi a oj.dst u h3]
 exact hy.imp (fun h => ⟨h.1, fun w'' hw'' => h.2 w'' (hw'.trans (fun x hx => put_getD (hdj x hx)) hw'')⟩) id
theorem mOp_putS {j : Nat} {oi oj : Oper} {v : Value} (hj : ops[j]? = some oj) (hap : oi.apart ops oj = true) (hsi : ∀ cs b, oi.op ≠ .select cs b) (hsj : ∀ cs b, oj.op ≠ .select cs b) (hdj : ∀ x ∈ s, oj.dst ≠ some x)
  {K : Act → World → Prop} {a : Act} {w : World} (hy : YS P ops s oi v a w) (h : mOp P ops j K (a.put oi.dst v) w) : mOp P ops j (fun a' w' => YS P ops s oi v a' w' ∧ K (a'.put oi.dst v) w') a w := by
 obtain ⟨h1, h2, h3⟩ := Oper.apart_spec hap
 have keep : ∀ u w', Later w w' → YS P ops s oi v (a.put oj.dst u) w' := fun u w' hw' => keepS hap hsi hdj hy u w' hw'.pinned
 unfold mOp at *
 simp only [hj] at *
 rw [wanted_put oj a oi.dst v h1] at h
 split
 ·rename_i hw
  simp only [hw, if_true] at h
  rw [execOp_put oj hsj a oi.dst v h1] at h
  generalize (execOp a.eval oj).run P w = r at *
  cases r with
  | ok n w' =>
   cases n <;> simp only [mUpon] at h ⊢
   case value u => exact ⟨h.1, keep u _ h.1, by rw [← Act.put_comm a v u h2]; exact h.2⟩
   case skip => exact ⟨h.1, keep _ _ h.1, by rw [← Act.put_comm a v undef h2]; exact h.2⟩
   case enter f args => exact ⟨h.1, h.2.mono fun e w'' ⟨u, e1, e2, e3⟩ => ⟨u, e1, e2, keep u _ e2, by rw [← Act.put_comm a v u h2]; exact e3⟩⟩
  | halt x w' => exact h.elim
 ·rename_i hw
  simp only [hw] at h
  exact ⟨keep _ _ (Later.refl w), by rw [← Act.put_comm a v undef h2]; exact h⟩
theorem sOp_putS {j : Nat} {oi oj : Oper} {v : Value} (hj : ops[j]? = some oj) (hap : oi.apart ops oj = true) (hsi : ∀ cs b, oi.op ≠ .select cs b) (hsj : ∀ cs b, oj.op ≠ .select cs b) (hdj : ∀ x ∈ s, oj.dst ≠ some x) (hdi : ∀ x ∈ s, oi.dst ≠ some x)
  {K : Act → World → Prop} {a : Act} {w : World} (hy : YS P ops s oi v a w) (h : sOp P ops s j K (a.put oi.dst v) w) : sOp P ops s j (fun a' w' => YS P ops s oi v a' w' ∧ K (a'.put oi.dst v) w') a w := by
 obtain ⟨h1, h2, h3⟩ := Oper.apart_spec hap
 unfold sOp at *
 simp only [hj] at *
 rw [wanted_put oj a oi.dst v h1] at h
 split
 ·rename_i hw
  simp only [hw, if_true] at h
  rw [execOp_put oj hsj a oi.dst v h1] at h
  generalize (execOp a.eval oj).run P w = r at *
  cases r with
  | ok n w' =>
   cases n <;> simp only [mUponS] at h ⊢
   case value u =>
    have hp : Pinned s a w w' := ⟨h.1.1, fun x hx A hA hlt => h.1.2 x hx A (by rw [put_getD (hdi x hx)]; exact hA) hlt⟩
    exact ⟨hp, keepS hap hsi hdj hy u _ hp, by rw [← Act.put_comm a v u h2]; exact h.2⟩
   case skip =>
    have hp : Pinned s a w w' := ⟨h.1.1, fun x hx A hA hlt => h.1.2 x hx A (by rw [put_getD (hdi x hx)]; exact hA) hlt⟩
    exact ⟨hp, keepS hap hsi hdj hy undef _ hp, by rw [← Act.put_comm a v undef h2]; exact h.2⟩
  | halt x w' => exact h.elim
 ·rename_i hw
  simp only [hw] at h
  exact ⟨keepS hap hsi hdj hy _ _ (Pinned.refl s a w), by rw [← Act.put_comm a v undef h2]; exact h⟩
theorem wpAnyV_firstS {i : Nat} {oi : Oper} {v : Value} (hi : ops[i]? = some oi) (hsel : ∀ (j : Nat) (o : Oper) cs b, ops[j]? = some o → o.op ≠ .select cs b) (hne : ws.contains i = false) (hdi : ∀ x ∈ s, oi.dst ≠ some x) {n : Nat} :
  ∀ (fuel : Nat) (listed : Array Bool) (a : Act) (w : World), Closed md ops listed → (∀ k ∈ ws, bs.contains k = true ∨ listed.getD k false = true ∨ reaches md ops n k i = true) →
   (∀ j oj, ops[j]? = some oj → j ≠ i → listed.getD j true = false → (∀ e ∈ oj.after, Region.binds md e = true → e.on ≠ i) → oi.apart ops oj = true) →
   (∀ j oj, ops[j]? = some oj → j ≠ i → listed.getD j true = false → ∀ x ∈ s, oj.dst ≠ some x) →
   i ∈ Region.ready md ops listed → YS P ops s oi v a w →
   wpAnyV P md ops Q ws bs s fuel (listed.setIfInBounds i true) (a.put oi.dst v) w → wpAnyV P md ops Q ws bs s (fuel + 1) listed a w := by
 intro fuel
 induction fuel with
 | zero =>
  intro listed a w _ _ _ _ hr hy H
  refine ⟨fun h => (by rw [h] at hr; cases hr), fun j hj => ?_⟩
  by_cases hji : j = i
  ·subst hji; rw [if_neg (by rw [hne]; decide)]; exact hy.run hi H
  ·have := ready_mono hj hji
   rw [H.1] at this
   cases this
 | succ fuel ih =>
  intro listed a w hcl hre hfree hds hr hy H
  refine ⟨fun h => (by rw [h] at hr; cases hr), fun j hj => ?_⟩
  by_cases hji : j = i
  ·subst hji; rw [if_neg (by rw [hne]; decide)]; exact hy.run hi H
  ·obtain ⟨hjun, oj, hoj, hall⟩ := mem_ready.1 hj
   have h0 := (mem_ready.1 hr).1
   have h1 := H.2 j (ready_mono hj hji)
   have hnot : ∀ e ∈ oj.after, Region.binds md e = true → e.on ≠ i := fun e he hb heq => by
    have h1 := hall e he hb
    rw [heq] at h1
    exact not_both h0 h1
   have hap := hfree j oj hoj hji hjun hnot
   have hdj := hds j oj hoj hji hjun
   have hun' : ∀ {k : Nat}, (listed.setIfInBounds j true).getD k true = false → listed.getD k true = false := fun {k} hun => by
    by_cases hjk : j = k
    ·subst hjk; exact hjun
    ·rw [getD_set_ne true hjk] at hun; exact hun
   have go : ∀ a' w', YS P ops s oi v a' w' ∧ wpAnyV P md ops Q ws bs s fuel ((listed.setIfInBounds i true).setIfInBounds j true) (a'.put oi.dst v) w' → wpAnyV P md ops Q ws bs s (fuel + 1) (listed.setIfInBounds j true) a' w' := fun a' w' h3 => by
    refine ih (listed.setIfInBounds j true) a' w' (hcl.set hj) (fun k hk => (hre k hk).imp id (Or.imp (fun h => getD_set_true h) id)) (fun k ok hk hki hun hno => hfree k ok hk hki (hun' hun) hno) (fun k ok hk hki hun => hds k ok hk hki (hun' hun)) (ready_mono hr (Ne.symm hji)) h3.1 ?_
    rw [Array.setIfInBounds_comm _ _ hji]
    exact h3.2
   by_cases hjw : ws.contains j = true
   ·rw [if_pos hjw] at h1 ⊢
    have hjb : bs.contains j = true := by
     have hjm : j ∈ ws := by simpa using hjw
     rcases hre j hjm with h2 | h2 | h2
     ·exact h2
     ·exact (not_both hjun h2).elim
     ·exact (not_both h0 (reaches_listed hcl n j (fun o ho e he hb => by rw [hoj] at ho; cases ho; exact hall e he hb) h2)).elim
    rw [if_pos hjb] at h1 ⊢
    exact sOp_mono go (sOp_putS hoj hap (fun cs b => hsel i oi cs b hi) (fun cs b => hsel j oj cs b hoj) hdj hdi hy h1)
   ·rw [if_neg hjw] at h1 ⊢
    exact mOp_mono go (mOp_putS hoj hap (fun cs b => hsel i oi cs b hi) (fun cs b => hsel j oj cs b hoj) hdj hy h1)
end
def eagerV (ops : Array Oper) (ws bs s : List Nat) : List (Nat × Nat) → Array Bool → Bool
 | [], listed => (Region.ready .any ops listed).isEmpty
 | (i, b) :: l, listed => (match b with
   | 1 => Region.ready .any ops listed == [i]
   | 0 => (Region.ready .any ops listed).contains i && Region.free .any ops listed i && !ws.contains i && ws.all (fun k => listed.getD k false || reaches .any ops ops.size k i)
   | _ => (Region.ready .any ops listed).contains i && Region.free .any ops listed i && !ws.contains i && ws.all (fun k => bs.contains k || (listed.getD k false || reaches .any ops ops.size k i)) &&
     (List.range ops.size).all (fun j => j == i && s.all (fun x => ((ops[j]?).bind (·.dst)) != some x) || j != i && (listed.getD j true || s.all fun x => ((ops[j]?).bind (·.dst)) != some x)))
   && eagerV ops ws bs s l (listed.setIfInBounds i true)
def eagerVB (ops : Array Oper) (ws bs s : List Nat) (l : List (Nat × Nat)) : Bool := Region.noSelect ops && l.length == ops.size && eagerV ops ws bs s l (Array.replicate ops.size false)
section
variable {P : Program} {w0 : World} {g0 : Gh} {st : St}
def TU (P : Program) (w0 : World) (g0 : Gh) (ops : Array Oper) (ws bs s : List Nat) (l : List (Nat × Nat)) (st : St) (Q : St → Prop) : Prop :=
 ∀ listed, Region.noSelect ops = true → Closed .any ops listed → eagerV ops ws bs s l listed = true → ∀ a w g, Rel w0 g0 st a w g → ∀ (Q' : Exit → Act → World → Prop), (∀ st' a' w' g', Q st' → Rel w0 g0 st' a' w' g' → Q' .normal a' w') →
  wpAnyV P .any ops Q' ws bs s l.length listed a w
theorem TC.regionV {i : Nat} {ops : Array Oper} {Q : Exit → St → Prop} (ws bs s : List Nat) (l : List (Nat × Nat)) (hm : P.follows .mixedOrders = true) (hB : eagerVB ops ws bs s l = true) (h : TU P w0 g0 ops ws bs s l st (fun st' => Q .normal st')) :
  TC P w0 g0 (.region i ops true) st Q := fun a w g hR => by
 simp only [eagerVB, Bool.and_eq_true, beq_iff_eq] at hB
 obtain ⟨⟨h1, h2⟩, h3⟩ := hB
 have hR' : Rel w0 g0 st a { w with drawn := w.drawn + 1 } g := hR.drew
 refine wp_region_any hm (wpAny_of_V (ws := ws) (bs := bs) (s := s) _ _ _ _ ?_)
 rw [← h2] at h3 ⊢
 refine h _ h1 (fun j o ho hj => ?_) (by rw [h2] at h3 ⊢; exact h3) a _ g hR' _ fun st' a' w' g' hq hr => ⟨st', g', hq, hr⟩
 simp [Array.getElem?_replicate] at hj
 split at hj <;> simp at hj
theorem TU.nil {ops : Array Oper} {ws bs s : List Nat} {Q : St → Prop} (h : Q st) : TU P w0 g0 ops ws bs s [] st Q := fun listed hs hc he a w g hR Q' hQ =>
 ⟨by simpa [eagerV, List.isEmpty_iff] using he, hQ st a w g h hR⟩
theorem TU.quiet {ops : Array Oper} {ws bs s : List Nat} {i : Nat} {l : List (Nat × Nat)} {st' : St} {Q : St → Prop} {o : Oper} {tl : List Oper} (hne : ws.contains i = false) (hd0 : ops.toList.drop i = o :: tl)
  (h : ∀ a w g, Rel w0 g0 st a w g → ∃ v, YV P ops o v a w ∧ Rel w0 g0 st' (a.put o.dst v) w g) (hq : TU P w0 g0 ops ws bs s l st' Q) : TU P w0 g0 ops ws bs s ((i, 0) :: l) st Q := fun listed hs hc he a w g hR Q' hQ => by
 have hi := at_drop hd0
 simp only [eagerV, Bool.and_eq_true] at he
 obtain ⟨h1, h2⟩ := he
 obtain ⟨v, hy, hR'⟩ := h a w g hR
 have hri : i ∈ Region.ready .any ops listed := by simpa using h1.1.1.1
 have hnext := hq (listed.setIfInBounds i true) hs (hc.set hri) h2 _ w g hR' Q' hQ
 exact wpAnyV_first (n := ops.size) hi (Region.noSelect_spec hs) hne _ listed a w hc (fun k hk => by simpa using List.all_eq_true.1 h1.2 k hk) (Region.free_spec hi h1.1.1.2) hri hy hnext
theorem TU.quietS {ops : Array Oper} {ws bs s : List Nat} {i : Nat} {l : List (Nat × Nat)} {st' : St} {Q : St → Prop} {o : Oper} {tl : List Oper} (hne : ws.contains i = false) (hd0 : ops.toList.drop i = o :: tl)
  (h : ∀ a w g, Rel w0 g0 st a w g → ∃ v, YS P ops s o v a w ∧ Rel w0 g0 st' (a.put o.dst v) w g) (hq : TU P w0 g0 ops ws bs s l st' Q) : TU P w0 g0 ops ws bs s ((i, 2) :: l) st Q := fun listed hs hc he a w g hR Q' hQ => by
 have hi := at_drop hd0
 simp only [eagerV, Bool.and_eq_true] at he
 obtain ⟨h1, h2⟩ := he
 obtain ⟨v, hy, hR'⟩ := h a w g hR
 have hri : i ∈ Region.ready .any ops listed := by simpa using h1.1.1.1.1
 have hnext := hq (listed.setIfInBounds i true) hs (hc.set hri) h2 _ w g hR' Q' hQ
 have hds : ∀ j oj, ops[j]? = some oj → (j = i → ∀ x ∈ s, oj.dst ≠ some x) ∧ (j ≠ i → listed.getD j true = false → ∀ x ∈ s, oj.dst ≠ some x) := fun j oj hj => by
  have h3 := List.all_eq_true.1 h1.2 j (List.mem_range.2 (Array.getElem?_eq_some_iff.1 hj).1)
  rw [hj] at h3
  simp only [Option.bind_some, Bool.or_eq_true, Bool.and_eq_true, beq_iff_eq, bne_iff_ne, List.all_eq_true] at h3
  refine ⟨fun e => ?_, fun e hl => ?_⟩
  ·rcases h3 with h3 | h3
   ·exact h3.2
   ·exact absurd e h3.1
  ·rcases h3 with h3 | h3
   ·exact absurd h3.1 e
   ·rcases h3.2 with h4 | h4
    ·rw [hl] at h4; cases h4
    ·exact h4
 exact wpAnyV_firstS (n := ops.size) hi (Region.noSelect_spec hs) hne ((hds i o hi).1 rfl) _ listed a w hc (fun k hk => by simpa using List.all_eq_true.1 h1.1.2 k hk) (Region.free_spec hi h1.1.1.1.2) (fun j oj hj hji hl => (hds j oj hj).2 hji hl) hri hy hnext
theorem TU.valE {ops : Array Oper} {ws bs s : List Nat} {i : Nat} {l : List (Nat × Nat)} {st' : St} {Q : St → Prop} {o : Oper} {t : TS} {tl : List Oper} (hne : ws.contains i = false) (hd0 : ops.toList.drop i = o :: tl) (hg : yes ops st o) (h : Val P w0 g0 o st t) (hp : st.put o.dst t = st')
  (hq : TU P w0 g0 ops ws bs s l st' Q) : TU P w0 g0 ops ws bs s ((i, 0) :: l) st Q := TU.quiet hne hd0 (fun a w g hR => by
 obtain ⟨v, hr, hv⟩ := h a w g hR
 exact ⟨v, .inl ⟨yes_of hg hR, fun w' hw' => hr w' hw'.2.2.2.2⟩, hp ▸ hR.put hv o.dst⟩) hq
def ValS (P : Program) (w0 : World) (g0 : Gh) (s : List Nat) (o : Oper) (st : St) (t : TS) : Prop :=
 ∀ a w g, Rel w0 g0 st a w g → ∃ v, (∀ w', Pinned s a w w' → (execOp a.eval o).run P w' = .ok (.value v) w') ∧ RepS w g t v
theorem TU.valS {ops : Array Oper} {ws bs s : List Nat} {i : Nat} {l : List (Nat × Nat)} {st' : St} {Q : St → Prop} {o : Oper} {t : TS} {tl : List Oper} (hne : ws.contains i = false) (hd0 : ops.toList.drop i = o :: tl) (hg : yes ops st o) (h : ValS P w0 g0 s o st t) (hp : st.put o.dst t = st')
  (hq : TU P w0 g0 ops ws bs s l st' Q) : TU P w0 g0 ops ws bs s ((i, 2) :: l) st Q := TU.quietS hne hd0 (fun a w g hR => by
 obtain ⟨v, hr, hv⟩ := h a w g hR
 exact ⟨v, .inl ⟨yes_of hg hR, hr⟩, hp ▸ hR.put hv o.dst⟩) hq
def worldless : Op → Bool
 | .move _ | .assign _ => true
 | _ => false
theorem ValS.pure {s : List Nat} {o : Oper} {t : TS} (h : Val P w0 g0 o st t) (hp : worldless o.op = true) : ValS P w0 g0 s o st t := fun a w g hR => by
 obtain ⟨v, hr, hv⟩ := h a w g hR
 refine ⟨v, fun w' _ => ?_, hv⟩
 have h0 := hr w (Ext.refl w)
 cases ho : o.op <;> rw [ho] at hp <;> try cases hp
 case move x => simp [execOp, ho] at h0 ⊢; exact h0
 case assign x => simp [execOp, ho] at h0 ⊢; exact h0
theorem ValS.load {s : List Nat} {o : Oper} {t : TypeId} {x : Operand} (ho : o.op = .load t x) {pl : Pl} {q' : Nat} (hx : T.opd 0 st x = some (.one (.ptr pl))) (x0 : Nat) (hx0 : x0 ∈ s) (hs : st.tmps[x0]? = some (.one (.ptr ⟨pl.k, pl.p, q'⟩))) (ht : aggT P t = some false) {c : C} (hc : st.cellAt pl = some c) (hm : st.isMem pl = true) : ValS P w0 g0 s o st (.one (.c (valC pl c))) :=
 fun a w g hR => by
  have h1 := hR.opd hx
  have h0 := hR.tm x0 _ hs
  generalize hv : a.eval x = v at h1
  generalize hv0 : a.tmps.getD x0 undef = v0 at h0
  cases h1 with
  | one _ _ h1 =>
   cases h1 with
   | ptr _ =>
    cases h0 with
    | one _ _ h0 =>
     cases h0 with
     | ptr _ =>
      have h2 := hR.cellAt hc
      refine ⟨g.cv pl.k pl.p pl.q, fun w' hw => ?_, .one _ _ (.c _ _ h2.2.1)⟩
      have h3 := h2.2.2.1 hm
      have hlt := World.block_lt_of_cell? w _ h3
      have h4 := hw.2 x0 hx0 _ hv0 hlt
      have h5 : w'.cell? (cellAddr (g.ad pl.k pl.p) pl.q) = some (g.cv pl.k pl.p pl.q) := by
       have h6 : w'.heap[(cellAddr (g.ad pl.k pl.p) pl.q).block]? = w.heap[(cellAddr (g.ad pl.k pl.p) pl.q).block]? := h4
       rw [World.cell?_of_block h6]
       exact h3
      simp [execOp, ho, hv, Instr.loadAt, Instr.sureAddr, loadVar, run_isAgg' ht, h5]
theorem ValS.sub {s : List Nat} {o : Oper} {ty ty' : TypeId} {x y : Operand} {m n : Int} (ho : o.op = .binOp .sub ty x y ty') (hx : T.opd 0 st x = some (I m)) (hy : T.opd 0 st y = some (I n)) (h1 : -9223372036854775808 ≤ m - n) (h2 : m - n ≤ 9223372036854775807) : ValS P w0 g0 s o st (I (m - n)) :=
 fun a w g hR => ⟨.int .i64 (m - n), fun w' _ => by
  have hb : (binOp .sub ty (.int .i64 m) (.int .i64 n)).run P w' = .ok (.int .i64 (m - n)) w' := by rw [binOp_sub]; simp only [Op.intArith]; rw [wrap_i64 h1 h2]; rfl
  have hgd : eqGuard .sub ty x y (.int .i64 m) (.int .i64 n) = (Pure.pure () : Sem Unit) := rfl
  simp [execOp, ho, hR.val hx, hR.val hy, hgd, hb], V_mk rfl⟩
theorem ValS.field {s : List Nat} {o : Oper} {x : Operand} {t : TypeId} {f : Nat} (ho : o.op = .fieldAddr t x f) {pl : Pl} (hx : T.opd 0 st x = some (.one (.ptr pl))) {off : Nat} (hf : fieldOff P t f = some off) : ValS P w0 g0 s o st (.one (.ptr ⟨pl.k, pl.p, pl.q + off⟩)) :=
 fun a w g hR => by
  have h1 := hR.opd hx
  generalize hv : a.eval x = v at h1
  cases h1 with
  | one _ _ h1 =>
   cases h1 with
   | ptr _ =>
    refine ⟨_, fun w' hw => ?_, .one _ _ (.ptr ⟨pl.k, pl.p, pl.q + off⟩)⟩
    simp [execOp, ho, hv, run_fieldAt' hf, addr_add]
theorem ValS.index {s : List Nat} {o : Oper} {x y : Operand} {t e : TypeId} (ho : o.op = .indexAddr t x y) {pl : Pl} {sz : Nat} {ds : List D} {k : IntKind} {i : Int} (hx : T.opd 0 st x = some (.one (.c (.ref pl)))) (hy : T.opd 0 st y = some (V (.int k i)))
  (hu : P.underlying t = some (.slice e)) (hs : sizeT P e = some sz) (hc : st.cellAt pl = some (.own (.sl sz ds))) (h0 : 0 ≤ i) (h1 : i.toNat < ds.length) : ValS P w0 g0 s o st (.one (.ptr ⟨pl.k, pl.p ++ [(pl.q, i.toNat)], 0⟩)) :=
 fun a w g hR => by
  have h2 := hR.opd hx
  generalize hv : a.eval x = v at h2
  cases h2 with
  | one _ _ h2 =>
   cases h2 with
   | c _ _ h2 =>
    have h3 : v = g.cv pl.k pl.p pl.q := h2.1
    have h4 := (hR.cellAt hc).1 _ rfl
    cases h4 with
    | nil _ _ _ hc' => simp at h1
    | sl _ _ _ _ b off n c cs ty hcv hn hm hnc hcm ho' hb hfit hrow had hcell hel =>
     rw [hcv] at h3
     subst h3
     have hlt : i < (n : Int) := by omega
     refine ⟨_, fun w' hw => ?_, .one _ _ (.ptr ⟨pl.k, pl.p ++ [(pl.q, i.toNat)], 0⟩)⟩
     simp only [execOp, ho, hv, hR.val hy, Sem.run_bind, Sem.run_pure, Instr.indexAt, asIntOf, Result.andThen_ok, run_underlying hu, run_sizeOf' hs]
     simp [h0, hlt, run_sizeOf' hs, cellAddr, had i.toNat (by omega), Addr.add_lit]
theorem TU.opK {ops : Array Oper} {ws bs s : List Nat} {i : Nat} {l : List (Nat × Nat)} {Q : St → Prop} {o : Oper} {tl : List Oper} (hin : ws.contains i = true ∧ bs.contains i = false) (hd0 : ops.toList.drop i = o :: tl) (hg : yes ops st o)
  (h : ∀ K : St → Prop, (∀ st', TU P w0 g0 ops ws bs s l st' Q → K st') → OpT P w0 g0 o st K) : TU P w0 g0 ops ws bs s ((i, 1) :: l) st Q := fun listed hs hc he a w g hR Q' hQ => by
 have hi := at_drop hd0
 simp only [eagerV, Bool.and_eq_true, beq_iff_eq] at he
 have h1 := he.1
 have hri : i ∈ Region.ready .any ops listed := by rw [h1]; exact List.mem_singleton.2 rfl
 refine ⟨fun h0 => (by rw [h1] at h0; cases h0), fun j hj => ?_⟩
 rw [h1] at hj
 rw [List.mem_singleton.1 hj, if_pos hin.1, if_neg (by rw [hin.2]; decide)]
 unfold wpOp
 simp only [hi, yes_of hg hR, if_true]
 exact .inl (h _ (fun _ h => h) a w g hR _ _ fun st' a' w' g' hq hR' => hq _ hs (hc.set hri) he.2 a' w' g' hR' Q' hQ)
theorem TU.takeN {ops : Array Oper} {ws bs s : List Nat} {l : List (Nat × Nat)} {st' : St} {Q : St → Prop} (k1 : Nat) (p1 : List (Nat × Nat)) (q1 L : Nat) (ht : st.takeN k1 p1 q1 L = some st') (hc : TU P w0 g0 ops ws bs s l st' Q) (hne : k1 ≠ L := by decide) (hL : L < 1000000 := by decide) : TU P w0 g0 ops ws bs s l st Q := fun listed hs hcl he a w g hR Q' hQ => by
 obtain ⟨g1, h1⟩ := hR.takeN ht hne hL
 exact hc listed hs hcl he a w g1 h1 Q' hQ
def Gh.frame (g : Gh) (ks : List Nat) (n : Nat) : Gh := { g with o := fun b => match (g.o b).root? with
 | some k => if ks.contains k then g.o b else if b < n then .ro else .outer
 | none => if b < n then .ro else .outer }
def St.only (st : St) (ks : List Nat) : St := ⟨st.tmps, st.roots.filter fun x => ks.contains x.1⟩
theorem find_only (ks : List Nat) (k : Nat) (hk : ks.contains k = true) : ∀ l : List (Nat × Rt), (l.filter fun x => ks.contains x.1).find? (fun x => x.1 == k) = l.find? fun x => x.1 == k
 | [] => rfl
 | x :: l => by
  rw [List.filter_cons]
  by_cases h : x.1 = k
  ·have : ks.contains x.1 = true := by rw [h]; exact hk
   rw [if_pos this, List.find?_cons, List.find?_cons]
   simp [h]
  ·have hn : (x.1 == k) = false := by simpa using h
   split
   ·rw [List.find?_cons, List.find?_cons, hn]
    exact find_only ks k hk l
   ·rw [List.find?_cons, hn]
    exact find_only ks k hk l
theorem find_off (ks : List Nat) (k : Nat) (hk : ks.contains k = false) (l : List (Nat × Rt)) : (l.filter fun x => ks.contains x.1).find? (fun x => x.1 == k) = none := by
 rw [List.find?_eq_none]
 intro x hx e
 have h1 := (List.mem_filter.1 hx).2
 have h2 : x.1 = k := by simpa using e
 rw [h2, hk] at h1
 cases h1
theorem root_only {ks : List Nat} {k : Nat} {r : Rt} (h : (st.only ks).root k = some r) : ks.contains k = true ∧ st.root k = some r := by
 unfold St.root St.only at h
 cases hk : ks.contains k with
 | false => rw [find_off ks k hk] at h; cases h
 | true => rw [find_only ks k hk] at h; exact ⟨rfl, h⟩
section
variable {w w' : World} {g g' : Gh}
theorem RepV.tags (hro : ∀ b, g.o b = .ro → g'.o b = .ro) (hcv : g'.cv = g.cv) {c : C} {u : Value} (h : RepV w g c u) : RepV w g' c u := by
 cases c with
 | ro d => exact Ro.mono (fun b hb => ⟨hro b hb, rfl⟩) h
 | own d => exact h
 | ref pl => have h1 : u = g.cv pl.k pl.p pl.q ∧ u.oneCell' = true := h; show u = g'.cv pl.k pl.p pl.q ∧ u.oneCell' = true; rw [hcv]; exact h1
 | dead => trivial
theorem RepT.tags (hro : ∀ b, g.o b = .ro → g'.o b = .ro) (hcv : g'.cv = g.cv) (had : g'.ad = g.ad) {t : TV} {u : Value} (h : RepT w g t u) : RepT w g' t u := by
 cases h with
 | c c u hv => exact .c c u (hv.tags hro hcv)
 | agg cs us hs hv => exact .agg cs us hs fun j c u h1 h2 => (hv j c u h1 h2).tags hro hcv
 | ptr pl => have := RepT.ptr (w := w) (g := g') pl; rw [had] at this; exact this
 | cptr ds b off us ho hcell => exact .cptr ds b off us (hro b ho) fun j d hj => ⟨(hcell j d hj).1, (hcell j d hj).2.mono fun b hb => ⟨hro b hb, rfl⟩⟩
 | tab pls b off ho hcell => exact .tab pls b off (hro b ho) fun j pl hj => by rw [had]; exact hcell j pl hj
 | ptab pls b off ho hcell => exact .ptab pls b off (hro b ho) fun j pl hj => by rw [had]; exact hcell j pl hj
 | cut pl sz lo hi b off n c hc h1 h2 h3 => exact .cut pl sz lo hi b off n c (by rw [hcv]; exact hc) h1 h2 h3
 | dead u => exact .dead u
theorem RepS.tags (hro : ∀ b, g.o b = .ro → g'.o b = .ro) (hcv : g'.cv = g.cv) (had : g'.ad = g.ad) {t : TS} {u : Value} (h : RepS w g t u) : RepS w g' t u := by
 cases h with
 | one t u hv => exact .one t u (hv.tags hro hcv had)
 | tup ts us hs hv => exact .tup ts us hs fun j t u h1 h2 => (hv j t u h1 h2).tags hro hcv had
 | fn f ts us hs hv => exact .fn f ts us hs fun j t u h1 h2 => (hv j t u h1 h2).tags hro hcv had
end
theorem Rel.frame {a : Act} {w : World} {g : Gh} (hR : Rel w0 g0 st a w g) (ks : List Nat) : Rel w (g.frame ks w.heap.size) (st.only ks) a w (g.frame ks w.heap.size) := by
 have hlt : ∀ b, g.o b ≠ .outer → b < w.heap.size := fun b hb => by
  rcases Nat.lt_or_ge b w.heap.size with h | h
  ·exact h
  ·exact absurd (hR.ks.fresh b h) hb
 have hro : ∀ b, g.o b = .ro → (g.frame ks w.heap.size).o b = .ro := fun b hb => by
  simp only [Gh.frame, hb, Tag.root?]
  rw [if_pos (hlt b (by rw [hb]; simp))]
 have hown : ∀ k b, ks.contains k = true → (g.o b).root? = some k → (g.frame ks w.heap.size).o b = g.o b := fun k b hk hb => by
  simp only [Gh.frame, hb, hk, if_true]
 have hS : Same w g w (g.frame ks w.heap.size) (fun k => ks.contains k = true) := ⟨fun b hb => ⟨hro b hb, rfl⟩, fun k hk b hb => ⟨hown k b hk hb, rfl⟩, fun _ _ => rfl, fun _ _ => rfl⟩
 have hC : ∀ k q c, ks.contains k = true → RepC w g k q c → RepC w (g.frame ks w.heap.size) k q c := fun k q c hk h => by
  cases c with
  | ro d => exact Ro.mono (w := w) (fun b hb => ⟨hro b hb, rfl⟩) h
  | own d => exact Ow.mono hS hk h
  | ref pl => exact h
  | dead => trivial
 refine ⟨fun i tv hi => (hR.tm i tv hi).tags hro rfl rfl, hR.sz, hR.df, ⟨fun k r hk q c hq => ?_, fun k r hk hm => ?_⟩, rfl, rfl, rfl, Nat.le_refl _, fun b hb _ => ⟨rfl, rfl⟩, fun b hb => ?_, fun b hb ho => ?_, ⟨fun _ => rfl, rfl⟩, fun b hb => ?_⟩
 ·obtain ⟨h1, h2⟩ := root_only hk
  exact hC k q c h1 (hR.rt.cell k r h2 q c hq)
 ·obtain ⟨h1, h2⟩ := root_only hk
  obtain ⟨m1, m2, m3⟩ := hR.rt.mem k r h2 hm
  exact ⟨by show (g.frame ks w.heap.size).o (g.ad k []).1 = .box k; rw [hown k _ h1 (by rw [m1]; rfl)]; exact m1, m2, m3⟩
 ·have h1 := hR.ks.fresh b hb
  simp only [Gh.frame, h1, Tag.root?, if_neg (Nat.not_lt.2 hb)]
 ·exact ⟨hb, ho⟩
 ·simp only [Gh.frame] at hb
  split at hb
  ·split at hb
   ·exact hR.ks.nobox b hb
   ·split at hb <;> cases hb
  ·split at hb <;> cases hb
theorem append_value {a : Act} {w : World} {o : Oper} {args : Array Operand} {tys : Array TypeId} (ho : o.op = .call { callee := .builtin .append, args := args, argTypes := tys }) {n : Next} {w' : World} (h : (execOp a.eval o).run P w = .ok n w') : ∃ v, n = .value v := by
 simp [execOp, ho, resolve, invoke, builtin] at h
 generalize Sem.run P (Builtin.append_ tys o.type (Array.map a.eval args)) w = r at h
 cases r with
 | ok v w1 =>
  simp [Result.andThen] at h
  exact ⟨v, h.1.symm⟩
 | halt x w1 => simp [Result.andThen] at h
theorem build_value {a : Act} {w : World} {o : Oper} {t : TypeId} {m : Nat} {parts : Array (Nat × Operand)} (ho : o.op = .buildSlice t m parts) {n : Next} {w' : World} (h : (execOp a.eval o).run P w = .ok n w') : ∃ v, n = .value v := by
 simp [execOp, ho] at h
 generalize Sem.run P (Instr.buildSlice t m (Array.map (fun x => (x.1, a.eval x.2)) parts)) w = r at h
 cases r with
 | ok v w1 =>
  simp [Result.andThen] at h
  exact ⟨v, h.1.symm⟩
 | halt x w1 => simp [Result.andThen] at h
theorem OpM.of {o : Oper} {Q : St → Prop} (hv : ∀ {a : Act} {w : World} {n : Next} {w' : World}, (execOp a.eval o).run P w = .ok n w' → ∃ v, n = .value v) (hf : ∀ w0 g0, ∃ st2, OpT P w0 g0 o (st.only []) (fun st' => st' = st2)) (h : OpT P w0 g0 o st Q) : OpM P w0 g0 o st Q := fun a w g hR K hK => by
 have hA := h a w g hR K (fun _ _ _ => False) hK
 obtain ⟨st2, hf⟩ := hf w (g.frame [] w.heap.size)
 have hB := hf a w _ (hR.frame []) (fun _ w' => ∃ g', Keeps w (g.frame [] w.heap.size) w' g') (fun _ _ _ => False) fun st' a' w' g' _ hR' => ⟨g', hR'.ks⟩
 unfold Oper.wp at hA hB
 generalize hr : (execOp a.eval o).run P w = r at hA hB
 cases r with
 | halt x w' => cases x <;> exact hA.elim
 | ok n w' =>
  obtain ⟨v, rfl⟩ := hv hr
  obtain ⟨g', hK'⟩ : ∃ g', Keeps w (g.frame [] w.heap.size) w' g' := hB
  refine ⟨⟨hK'.os, hK'.tape, hK'.output, hK'.size, fun b hb => (hK'.block b hb (.inl ?_)).1⟩, hA⟩
  simp only [Gh.frame]
  split
  ·simp [hb]
  ·exact if_pos hb
theorem OpM.build1 {o : Oper} {Q : St → Prop} {t e : TypeId} {x : Operand} (ho : o.op = .buildSlice t 1 #[(0, x)]) (h9 : ∃ k, o.dst = some k ∧ k < 1000000) {tv : TV} {z : Nat} (hx : T.opd z st x = some (.one tv)) (hu : P.underlying t = some (.slice e)) {sz : Nat} (hs : sizeT P e = some sz)
  {zv : Value} (hz : (P.info? e).bind (·.zero) = some zv) (hal : aliveV sz tv = true) (hsz : 0 < sz) (hsz2 : sz ≤ 16777216) (h : OpT P w0 g0 o st Q) : OpM P w0 g0 o st Q := fun a w g hR K hK => by
 have hA := h a w g hR K (fun _ _ _ => False) hK
 obtain ⟨k, _, hkp⟩ := h9
 obtain ⟨cells, g', hrun, _⟩ := hR.built (xs := [x]) ho rfl rfl k hkp (z := z) (tvs := [tv]) (by simp [T.vals, hx]) hu hs hz (by simp [hal]) hsz (by omega)
 unfold Oper.wp at hA
 rw [hrun] at hA ⊢
 refine ⟨⟨rfl, rfl, rfl, ?_, fun b hb => ?_⟩, hA⟩
 ·show w.heap.size ≤ (w.heap.push _).size
  simp
 ·show (w.heap.push _)[b]? = w.heap[b]?
  rw [Array.getElem?_push, if_neg (by omega)]
theorem TU.opM {ops : Array Oper} {ws bs s : List Nat} {i : Nat} {l : List (Nat × Nat)} {Q : St → Prop} {o : Oper} {tl : List Oper} (hne : ws.contains i = false) (hd0 : ops.toList.drop i = o :: tl) (hg : yes ops st o)
  (h : ∀ K : St → Prop, (∀ st', TU P w0 g0 ops ws bs s l st' Q → K st') → OpM P w0 g0 o st K) : TU P w0 g0 ops ws bs s ((i, 1) :: l) st Q := fun listed hs hc he a w g hR Q' hQ => by
 have hi := at_drop hd0
 simp only [eagerV, Bool.and_eq_true, beq_iff_eq] at he
 have h1 := he.1
 have hri : i ∈ Region.ready .any ops listed := by rw [h1]; exact List.mem_singleton.2 rfl
 refine ⟨fun h0 => (by rw [h1] at h0; cases h0), fun j hj => ?_⟩
 rw [h1] at hj
 rw [List.mem_singleton.1 hj, if_neg (by rw [hne]; decide)]
 unfold mOp
 simp only [hi, yes_of hg hR, if_true]
 exact h _ (fun _ h => h) a w g hR _ fun st' a' w' g' hq hR' => hq _ hs (hc.set hri) he.2 a' w' g' hR' Q' hQ
inductive PinsOk (st : St) (ks : List Nat) : List Nat → Prop
 | nil : PinsOk st ks []
 | cons {x : Nat} {l : List Nat} {pl : Pl} {c : C} (h1 : st.tmps[x]? = some (.one (.ptr pl))) (h2 : st.cellAt pl = some c) (h3 : st.isMem pl = true) (h4 : ks.contains pl.k = false) (h : PinsOk st ks l) : PinsOk st ks (x :: l)
theorem PinsOk.get {st : St} {ks l : List Nat} (h : PinsOk st ks l) : ∀ x ∈ l, ∃ pl c, st.tmps[x]? = some (.one (.ptr pl)) ∧ st.cellAt pl = some c ∧ st.isMem pl = true ∧ ks.contains pl.k = false := by
 induction h with
 | nil => intro x hx; cases hx
 | cons h1 h2 h3 h4 _ ih =>
  intro x hx
  rcases List.mem_cons.1 hx with rfl | hx
  ·exact ⟨_, _, h1, h2, h3, h4⟩
  ·exact ih x hx
end
end Go.Proofs.Ytcmoifejjodgcaa.T

