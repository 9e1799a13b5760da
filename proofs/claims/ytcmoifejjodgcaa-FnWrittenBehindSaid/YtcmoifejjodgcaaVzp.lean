/- a page that is written behind its copy is listed again and comes as it is then, for all codes -/
import Derived.Test.YtcmoifejjodgcaaQpp
import Derived.Test.YtcmoifejjodgcaaT2p
import Derived.Test.YtcmoifejjodgcaaWyp
import Derived.Carry
namespace Go.Proofs.Ytcmoifejjodgcaa.WrittenBehind
open Go.ChangeShapes Go.WideShapes Go.ChangeAt Go.RowKit Go.Proofs.Ytcmoifejjodgcaa.Base Go.Proofs.Ytcmoifejjodgcaa.T
set_option maxRecDepth 100000
theorem map_of2 {α : Type} {f : α → D} {q : α → Prop} {p : D → Prop} (h : ∀ d, p d → ∃ x, d = f x ∧ q x) : ∀ {ds : List D}, (∀ d ∈ ds, p d) → ∃ xs : List α, ds = xs.map f ∧ ∀ x ∈ xs, q x
 | [], _ => ⟨[], rfl, fun x hx => by cases hx⟩
 | d :: ds, hd => by
  obtain ⟨x, rfl, hx⟩ := h d (hd d List.mem_cons_self)
  obtain ⟨xs, rfl, hxs⟩ := map_of2 h (ds := ds) fun d' h' => hd d' (List.mem_cons_of_mem _ h')
  refine ⟨x :: xs, rfl, fun y hy => ?_⟩
  rcases List.mem_cons.1 hy with rfl | hy
  ·exact hx
  ·exact hxs y hy
theorem u8_of {n : Int} (h : (Lit.int .u8 n).wf = true) : 0 ≤ n ∧ n < 256 := by
 simp only [Lit.wf, Bool.and_eq_true, decide_eq_true_eq] at h
 have h1 : IntKind.u8.min = 0 := by decide
 have h2 : IntKind.u8.max = 255 := by decide
 rw [h1, h2] at h
 omega
abbrev dByte (x : Int) : D := .v (.int .u8 x)
abbrev dByteS (xs : List Int) : D := .sl 1 (xs.map dByte)
abbrev tyByte : Ty := .int .u8
def WfByte (x : Int) : Prop := 0 ≤ x ∧ x < 256
theorem el_Byte (d : D) (h : tyByte.elem d) : ∃ x, d = dByte x ∧ WfByte x := by
 simp only [Ty.elem] at h
 obtain ⟨n, rfl, hw⟩ := h
 exact ⟨n, rfl, u8_of hw⟩
theorem bytes_wf {xs : List Int} (h : ∀ x ∈ xs, WfByte x) : isBytes (xs.map dByte) := fun d hd => by
 obtain ⟨x, hx, rfl⟩ := List.mem_map.1 hd
 have h1 := h x hx
 unfold WfByte at h1
 exact ⟨x.toNat, by omega, by rw [Int.toNat_of_nonneg h1.1]⟩
abbrev tyByteS : Ty := .list tyByte
def WfByteS (xs : List Int) : Prop := ∀ x ∈ xs, WfByte x
theorem el_ByteS (d : D) (h : tyByteS.elem d) : ∃ x, d = dByteS x ∧ WfByteS x := by
 rw [Ty.elem] at h
 obtain ⟨ds, rfl, h⟩ := h
 obtain ⟨xs, rfl, hx⟩ := map_of2 el_Byte h
 exact ⟨xs, rfl, hx⟩
theorem contract (H : Type) (enc : TypeId × Value → H) (W : World) (base : Nat) (args : Array Value) (ds gs : List (DataW H)) (before : List MemPlace)
  (hval : ∀ (j : Nat) t v, Try.f3.params[j]? = some t → args[j]? = some v → Value.okWide Try.prog W .any base t v)
  (hW : DataW.Whole enc Try.prog Try.f3.params.toList Rows.fnWrittenBehindSpec.vars false W args.toList ds gs before) :
  Calls Try.prog 3 args W fun e W' => ∃ v, e = .returned v ∧ Rows.fnWrittenBehindSpec.post enc Try.prog Try.f3 false true false false W args v W' := by
 have hW' := hW
 obtain ⟨p, q, hA0, hV, rfl, hfz, hnd⟩ := hW
 have hA : DataW.TrodAll enc Try.prog W 0 (fun _ => true) true Try.f3.params.toList args.toList ds p := hA0
 rw [Try.params3] at hA hval
 obtain ⟨v0, vs0, d0, ds0, p0, q0, hargs0, rfl, rfl, h0, r0⟩ := trodAll_cons hA
 obtain ⟨rfl, rfl, rfl⟩ := trodAll_nil r0
 obtain rfl : args = #[v0] := by cases args; simp_all
 obtain ⟨rfl, rfl⟩ := trodVars_none hV
 clear hA0
 simp only [List.append_nil] at hW'
 have hlt : ∀ x ∈ (p0), x.block < W.heap.size := fun x hx => hW'.lt x hx
 obtain ⟨a0, len0, cap0, hv0⟩ := okWide_slice Try.underlying22 (hval 0 22 v0 rfl rfl)
 obtain ⟨l0, hl0, hrep0⟩ := arg_cell (e := tyByteS) (by kernel_rfl) h0 (by rw [hv0]; rfl) rfl
 obtain ⟨x0, rfl, hwf0⟩ := el_ByteS l0 hl0
 refine (Fun.done (laws_FnWrittenBehind_f (x0.map dByte) (bytes_wf hwf0)) (W := W) (args := #[v0]) rfl fun g hg i t u hi hu => ?_).mono fun e W' ⟨he, hb⟩ => ?_
 ·match i, hi, hu with
  | 0, hi, hu =>
   have hi' := Option.some.inj hi
   have hu' : v0 = u := by simpa using hu
   subst hi'; subst hu'
   exact hrep0 g hg
 ·subst he
  exact ⟨_, rfl, post_of_below (pa := (p0)) (pv := []) hW' (fun _ _ _ => (trodAll_cons_mk (shut_bool Try.underlying4 _) trodAll_mk0))
   (fun sp hsp => by
    have := trodAll_mk1 (WideElems.Trod_stays (by kernel_rfl) (by kernel_rfl) (of_decide_eq_true (by kernel_rfl)) h0 (fun x hx => hb.same (hlt x (by simp [hx]))) (fun x hx => hsp x (by simp [hx])))
    exact this) (fun _ _ => rfl) (by simp)
   hb (ok_one (by kernel_rfl) rfl (okWide_bool_mk Try.underlying4 _))⟩
theorem lifted (os : Os) (started : os.Started) (H : Type) (enc : TypeId × Value → H) :
  ReturnsInHanded {} Try.checked os 3 .any (Rows.fnWrittenBehindSpec.pre6 enc Try.prog Try.f3 Rows.fnWrittenBehindRow.domain false) (Rows.fnWrittenBehindSpec.post enc Try.prog Try.f3 false true false false) := by
 refine returnsInHanded_of_change (C := Try.checked) own started (by kernel_rfl) Try.func3
  (ChangeSpec.witness6 (enc := enc) (C := Try.checked) false ⟨#[], #[.slice none 0 0], []⟩ 8 (by kernel_rfl) (by kernel_rfl) (by kernel_rfl) (by kernel_rfl)) ?_
 intro W base args ds gs before hval hW _ _
 exact contract H enc W base args ds gs before hval hW
set_option maxHeartbeats 8000000 in
theorem joined : joinedFacts Try.pinned.checked.prog 3 Try.f3 Rows.fnWrittenBehindSpec Rows.fnWrittenBehindRow = true := by
 unfold joinedFacts
 simp only [Bool.and_eq_true]
 repeat' apply And.intro
 all_goals (as_aux_lemma => kernel_rfl)
theorem proved : Rows.FnWrittenBehindSaid :=
 OpenClaim.holds_of_wide 3 Try.f3 rfl rfl rfl rfl rfl rfl rfl ⟨rfl, rfl, rfl, rfl, rfl⟩ rfl rfl rfl rfl rfl (by kernel_rfl) Try.func3 joined
  (of_decide_eq_true (by kernel_rfl)) (by unfold Func.isWrapper; first | (rw [if_pos (by decide +kernel)]; kernel_rfl) | (rw [if_neg (by decide +kernel)]; exact ⟨rfl, rfl⟩))
  (fun os started H enc _ => lifted os started H enc)
end Go.Proofs.Ytcmoifejjodgcaa.WrittenBehind
#print axioms Go.Proofs.Ytcmoifejjodgcaa.WrittenBehind.proved

