/- FnExactToldText: the program's ToldText returns what the reference's returns, for every list. No condition. -/
import Derived.Test.YtljoagkclakjmaaUa
import Derived.Test.YtljoagkclakjmaaTv
import Derived.Test.YtljoagkclakjmaaBase
import Derived.Carry
namespace Go.Proofs.Ytljoagkclakjmaa.ToldText
open Go.ChangeShapes Go.WideShapes Go.ChangeAt Go.RowKit Go.Proofs.Ytljoagkclakjmaa.Base Go.Proofs.Ytljoagkclakjmaa.T

abbrev tyTold : Ty := .st [.bool, .int .i64]
theorem told_of (d : D) (h : tyTold.elem d) : ∃ x, d = toldD x := by
  simp only [Ty.elem, isL, Ty.is] at h
  obtain ⟨r, rfl, a, b, rfl, ⟨x, rfl⟩, c, d, rfl, ⟨n, rfl, _⟩, rfl⟩ := h
  exact ⟨(x, n), rfl⟩

theorem contract (H : Type) (enc : TypeId × Value → H) (W : World) (base : Nat) (args : Array Value) (ds gs : List (DataW H)) (before : List MemPlace)
    (hval : ∀ (j : Nat) t v, Try.f5.params[j]? = some t → args[j]? = some v → Value.okWide Try.prog W .any base t v)
    (hW : DataW.Whole enc Try.prog Try.f5.params.toList Rows.fnExactToldTextSpec.vars false W args.toList ds gs before) :
    Calls Try.prog 5 args W fun e W' => ∃ v, e = .returned v ∧ Rows.fnExactToldTextSpec.post enc Try.prog Try.f5 false true false false W args v W' := by
  have hW' := hW
  obtain ⟨p, q, hA0, hV, rfl, hfz, hnd⟩ := hW
  have hA : DataW.TrodAll enc Try.prog W 0 (fun _ => true) true Try.f5.params.toList args.toList ds p := hA0
  rw [Try.params5] at hA hval
  obtain ⟨v0, vs0, d0, ds0, p0, q0, hargs, rfl, rfl, h0, r0⟩ := trodAll_cons hA
  obtain ⟨rfl, rfl, rfl⟩ := trodAll_nil r0
  obtain rfl : args = #[v0] := by cases args; simp_all
  obtain ⟨rfl, rfl⟩ := trodVars_none hV
  clear hA0
  simp only [List.append_nil] at hW'
  have hlt : ∀ x ∈ p0, x.block < W.heap.size := fun x hx => hW'.lt x hx
  obtain ⟨a, len, cap, hv0⟩ := okWide_slice Try.underlying24 (hval 0 24 v0 rfl rfl)
  obtain ⟨l, hl, hrep⟩ := arg_list (e := tyTold) (by kernel_rfl) h0 (by rw [hv0]; rfl)
  obtain ⟨xs, rfl⟩ := map_of told_of hl
  refine (Fun.done (laws_FnExactToldText_f xs) (W := W) (args := #[v0]) rfl fun g hg i t u hi hu => ?_).mono fun e W' ⟨he, hb⟩ => ?_
  · match i, hi, hu with
    | 0, hi, hu =>
      simp only [List.getElem?_cons_zero, Option.some.injEq] at hi
      have hu' : v0 = u := by simpa using hu
      subst hi; subst hu'
      exact hrep g hg
  · subst he
    exact ⟨_, rfl, post_of_below (pa := p0) (pv := []) hW' (fun _ _ _ => (trodAll_cons_mk (shut_bool Try.underlying4 _) trodAll_mk0))
      (fun sp hsp => by
        have := trodAll_mk1 (WideElems.Trod_stays (by kernel_rfl) (by kernel_rfl) (of_decide_eq_true (by kernel_rfl)) h0 (fun x hx => hb.same (hlt x hx)) (fun x hx => hsp x hx))
        exact this) (fun _ _ => rfl) (by simp)
      hb (ok_one (by kernel_rfl) rfl (okWide_bool_mk Try.underlying4 _))⟩

set_option maxRecDepth 100000 in
theorem lifted (os : Os) (started : os.Started) (H : Type) (enc : TypeId × Value → H) :
    ReturnsInHanded {} Try.checked os 5 .any (Rows.fnExactToldTextSpec.pre6 enc Try.prog Try.f5 Rows.fnExactToldTextRow.domain false) (Rows.fnExactToldTextSpec.post enc Try.prog Try.f5 false true false false) := by
  refine returnsInHanded_of_change (C := Try.checked) own started (by kernel_rfl) Try.func5
    (ChangeSpec.witness6 (enc := enc) (C := Try.checked) false ⟨#[], #[.slice none 0 0], []⟩ 8 (by kernel_rfl) (by kernel_rfl) (by kernel_rfl) (by kernel_rfl)) ?_
  intro W base args ds gs before hval hW _ _
  exact contract H enc W base args ds gs before hval hW

theorem proved : Rows.FnExactToldTextSaid :=
  OpenClaim.holds_of_wide 5 Try.f5 rfl rfl rfl rfl rfl rfl rfl ⟨rfl, rfl, rfl, rfl, rfl⟩ rfl rfl rfl rfl rfl (by kernel_rfl) Try.func5 (by kernel_rfl)
    (of_decide_eq_true (by kernel_rfl)) (by unfold Func.isWrapper; first | (rw [if_pos (by decide +kernel)]; kernel_rfl) | (rw [if_neg (by decide +kernel)]; exact ⟨rfl, rfl⟩))
    (fun os started H enc _ => lifted os started H enc)

end Go.Proofs.Ytljoagkclakjmaa.ToldText
#print axioms Go.Proofs.Ytljoagkclakjmaa.ToldText.proved
