/- FnExactMoveNew: the program's MoveNew returns what the reference's returns, for every int, in memory of its own. No condition. -/
import Derived.Test.YtljoagkclakjmaaUp
import Derived.Test.YtljoagkclakjmaaTv
import Derived.Test.YtljoagkclakjmaaBase
import Derived.Carry
namespace Go.Proofs.Ytljoagkclakjmaa.ExactMoveNew
open Go.ChangeShapes Go.WideShapes Go.ChangeAt Go.RowKit Go.Proofs.Ytljoagkclakjmaa.Base Go.Proofs.Ytljoagkclakjmaa.T
set_option maxRecDepth 100000

/-- An int that fits. -/
def I64 (n : Int) : Prop := -9223372036854775808 ≤ n ∧ n ≤ 9223372036854775807
theorem i64_of {n : Int} (h : (Lit.int .i64 n).wf = true) : I64 n := by
  simp only [Lit.wf, Bool.and_eq_true, decide_eq_true_eq] at h
  have h1 : IntKind.i64.min = -9223372036854775808 := by decide
  have h2 : IntKind.i64.max = 9223372036854775807 := by decide
  rw [h1, h2] at h
  exact h
theorem isL_cons {t : Ty} {l : List Ty} {r : List D} (h : isL (t :: l) r) : ∃ a b, r = a ++ b ∧ t.is a ∧ isL l b := by rw [isL] at h; exact h
theorem isL_nil {r : List D} (h : isL [] r) : r = [] := by rw [isL] at h; exact h
theorem map_of2 {α : Type} {f : α → D} {q : α → Prop} {p : D → Prop} (h : ∀ d, p d → ∃ x, d = f x ∧ q x) : ∀ {ds : List D}, (∀ d ∈ ds, p d) → ∃ xs : List α, ds = xs.map f ∧ ∀ x ∈ xs, q x
  | [], _ => ⟨[], rfl, fun x hx => by cases hx⟩
  | d :: ds, hd => by
    obtain ⟨x, rfl, hx⟩ := h d (hd d List.mem_cons_self)
    obtain ⟨xs, rfl, hxs⟩ := map_of2 h (ds := ds) fun d' h' => hd d' (List.mem_cons_of_mem _ h')
    refine ⟨x :: xs, rfl, fun y hy => ?_⟩
    rcases List.mem_cons.1 hy with rfl | hy
    · exact hx
    · exact hxs y hy
abbrev tyInt : Ty := .int .i64
def WfInt (x : Int) : Prop := I64 x
theorem is_Int (r : List D) (h : tyInt.is r) : ∃ x, r = [dInt x] ∧ WfInt x := by
  simp only [Ty.is] at h
  obtain ⟨n, rfl, hw⟩ := h
  exact ⟨n, rfl, i64_of hw⟩
theorem el_Int (d : D) (h : tyInt.elem d) : ∃ x, d = dInt x ∧ WfInt x := by
  simp only [Ty.elem] at h
  obtain ⟨n, rfl, hw⟩ := h
  exact ⟨n, rfl, i64_of hw⟩

theorem contract (H : Type) (enc : TypeId × Value → H) (W : World) (base : Nat) (args : Array Value) (ds gs : List (DataW H)) (before : List MemPlace)
    (hval : ∀ (j : Nat) t v, Try.f6.params[j]? = some t → args[j]? = some v → Value.okWide Try.prog W .any base t v)
    (hW : DataW.Whole enc Try.prog Try.f6.params.toList Rows.fnExactMoveNewSpec.vars false W args.toList ds gs before) :
    Calls Try.prog 6 args W fun e W' => ∃ v, e = .returned v ∧ Rows.fnExactMoveNewSpec.post enc Try.prog Try.f6 false true false false W args v W' := by
  have hW' := hW
  obtain ⟨p, q, hA0, hV, rfl, hfz, hnd⟩ := hW
  have hA : DataW.TrodAll enc Try.prog W 0 (fun _ => true) true Try.f6.params.toList args.toList ds p := hA0
  rw [Try.params6] at hA hval
  obtain ⟨v0, vs0, d0, ds0, p0, q0, hargs0, rfl, rfl, h0, r0⟩ := trodAll_cons hA
  obtain ⟨rfl, rfl, rfl⟩ := trodAll_nil r0
  obtain rfl : args = #[v0] := by cases args; simp_all
  obtain ⟨rfl, rfl⟩ := trodVars_none hV
  clear hA0
  simp only [List.append_nil] at hW'
  have hlt : ∀ x ∈ (p0), x.block < W.heap.size := fun x hx => hW'.lt x hx
  obtain ⟨a0, hv0⟩ := okWide_int Try.underlying3 (hval 0 3 v0 rfl rfl)
  obtain ⟨l0, hl0, hrep0⟩ := arg_cell (e := tyInt) (by kernel_rfl) h0 (by rw [hv0]; rfl) rfl
  obtain ⟨x0, rfl, hwf0⟩ := el_Int l0 hl0
  refine (Fun.done (laws_FnExactMoveNew_f x0) (W := W) (args := #[v0]) rfl fun g hg i t u hi hu => ?_).mono fun e W' ⟨he, hb⟩ => ?_
  · match i, hi, hu with
    | 0, hi, hu =>
      have hi' := Option.some.inj hi
      have hu' : v0 = u := by simpa using hu
      subst hi'; subst hu'
      exact hrep0 g hg
  · subst he
    exact ⟨_, rfl, post_of_below (pa := (p0)) (pv := []) hW' (fun _ _ _ => (trodAll_cons_mk (shut_bool Try.underlying4 _) trodAll_mk0))
      (fun sp hsp => by
        have := trodAll_mk1 (WideElems.Trod_stays (by kernel_rfl) (by kernel_rfl) (of_decide_eq_true (by kernel_rfl)) h0 (fun x hx => hb.same (hlt x (by simp [hx]))) (fun x hx => hsp x (by simp [hx])))
        exact this) (fun _ _ => rfl) (by simp)
      hb (ok_one (by kernel_rfl) rfl (okWide_bool_mk Try.underlying4 _))⟩

theorem lifted (os : Os) (started : os.Started) (H : Type) (enc : TypeId × Value → H) :
    ReturnsInHanded {} Try.checked os 6 .any (Rows.fnExactMoveNewSpec.pre6 enc Try.prog Try.f6 Rows.fnExactMoveNewRow.domain false) (Rows.fnExactMoveNewSpec.post enc Try.prog Try.f6 false true false false) := by
  refine returnsInHanded_of_change (C := Try.checked) own started (by kernel_rfl) Try.func6
    (ChangeSpec.witness6 (enc := enc) (C := Try.checked) false ⟨#[], #[.int .i64 0], []⟩ 8 (by kernel_rfl) (by kernel_rfl) (by kernel_rfl) (by kernel_rfl)) ?_
  intro W base args ds gs before hval hW _ _
  exact contract H enc W base args ds gs before hval hW

theorem proved : Rows.FnExactMoveNewSaid :=
  OpenClaim.holds_of_wide 6 Try.f6 rfl rfl rfl rfl rfl rfl rfl ⟨rfl, rfl, rfl, rfl, rfl⟩ rfl rfl rfl rfl rfl (by kernel_rfl) Try.func6 (by kernel_rfl)
    (of_decide_eq_true (by kernel_rfl)) (by unfold Func.isWrapper; first | (rw [if_pos (by decide +kernel)]; kernel_rfl) | (rw [if_neg (by decide +kernel)]; exact ⟨rfl, rfl⟩))
    (fun os started H enc _ => lifted os started H enc)

end Go.Proofs.Ytljoagkclakjmaa.ExactMoveNew
#print axioms Go.Proofs.Ytljoagkclakjmaa.ExactMoveNew.proved

