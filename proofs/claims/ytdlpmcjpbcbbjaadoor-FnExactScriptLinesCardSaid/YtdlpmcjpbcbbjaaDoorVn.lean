/- FnExactScriptLines: the program's ScriptLines returns what the reference's returns, for every script, leaves its argument as it was and shares no memory. Condition: Go's table of powers of ten lies as the program's text lays it. -/
import Derived.Test.YtdlpmcjpbcbbjaaDoorXb
import Derived.Test.YtdlpmcjpbcbbjaaDoorTv
import Derived.Test.YtdlpmcjpbcbbjaaDoorBase
import Derived.Carry
import Derived.LaidMore
import Derived.LaidSub
import Derived.LaidHandle
import Derived.Stop.Joined
import Derived.SevenTiedAt
import Derived.Test.YtdlpmcjpbcbbjaaDoorCards
import Derived.Test.YtdlpmcjpbcbbjaaDoorTie
import Derived.Test.YtdlpmcjpbcbbjaaDoorTzc
namespace Go.Proofs.YtdlpmcjpbcbbjaaDoor.ExactScriptLines
open Go.ChangeShapes Go.WideShapes Go.ChangeAt Go.RowKit Go.Proofs.YtdlpmcjpbcbbjaaDoor.Base Go.Proofs.YtdlpmcjpbcbbjaaDoor.T
set_option maxRecDepth 100000

/-- An int that fits. -/
def I64 (n : Int) : Prop := -9223372036854775808 ≤ n ∧ n ≤ 9223372036854775807
theorem i64_of {n : Int} (h : (Lit.int .i64 n).wf = true) : I64 n := by
  simp only [Lit.wf, Bool.and_eq_true, decide_eq_true_eq] at h
  have h1 : IntKind.i64.min = -9223372036854775808 := by decide
  have h2 : IntKind.i64.max = 9223372036854775807 := by decide
  rw [h1, h2] at h
  exact h
theorem isL_cons {t : Ty} {l : List Ty} {r : List D} (h : isL (t :: l) r) : ∃ a b, r = a ++ b ∧ t.is a ∧ isL l b := by rw [isL] at h; exact h
theorem isL_nil {r : List D} (h : isL [] r) : r = [] := by rw [isL] at h; exact h
theorem map_of2 {α : Type} {f : α → D} {q : α → Prop} {p : D → Prop} (h : ∀ d, p d → ∃ x, d = f x ∧ q x) : ∀ {ds : List D}, (∀ d ∈ ds, p d) → ∃ xs : List α, ds = xs.map f ∧ ∀ x ∈ xs, q x
  | [], _ => ⟨[], rfl, fun x hx => by cases hx⟩
  | d :: ds, hd => by
    obtain ⟨x, rfl, hx⟩ := h d (hd d List.mem_cons_self)
    obtain ⟨xs, rfl, hxs⟩ := map_of2 h (ds := ds) fun d' h' => hd d' (List.mem_cons_of_mem _ h')
    refine ⟨x :: xs, rfl, fun y hy => ?_⟩
    rcases List.mem_cons.1 hy with rfl | hy
    · exact hx
    · exact hxs y hy
abbrev tyInt : Ty := .int .i64
def WfInt (x : Int) : Prop := I64 x
theorem is_Int (r : List D) (h : tyInt.is r) : ∃ x, r = [dInt x] ∧ WfInt x := by
  simp only [Ty.is] at h
  obtain ⟨n, rfl, hw⟩ := h
  exact ⟨n, rfl, i64_of hw⟩
theorem el_Int (d : D) (h : tyInt.elem d) : ∃ x, d = dInt x ∧ WfInt x := by
  simp only [Ty.elem] at h
  obtain ⟨n, rfl, hw⟩ := h
  exact ⟨n, rfl, i64_of hw⟩
abbrev tyIns : Ty := .st [tyInt, tyInt]
def WfIns (x : VIns) : Prop := WfInt x.Op ∧ WfInt x.X
theorem isL_Ins (r : List D) (h : isL [tyInt, tyInt] r) : ∃ x, r = rIns x ∧ WfIns x := by
  obtain ⟨a0, b0, e0, g0, h0⟩ := isL_cons h
  obtain ⟨x0, e00, w0⟩ := is_Int _ g0
  obtain ⟨a1, b1, e1, g1, h1⟩ := isL_cons h0
  obtain ⟨x1, e11, w1⟩ := is_Int _ g1
  have en := isL_nil h1
  exact ⟨⟨x0, x1⟩, by rw [e0, e00, e1, e11, en]; rfl, ⟨w0, w1⟩⟩
theorem is_Ins (r : List D) (h : tyIns.is r) : ∃ x, r = rIns x ∧ WfIns x := by
  rw [Ty.is] at h
  exact isL_Ins r h
theorem el_Ins (d : D) (h : tyIns.elem d) : ∃ x, d = dIns x ∧ WfIns x := by
  rw [Ty.elem] at h
  obtain ⟨r, rfl, h⟩ := h
  obtain ⟨x, rfl, hx⟩ := isL_Ins r h
  exact ⟨x, rfl, hx⟩
abbrev tyInsS : Ty := .list tyIns
def WfInsS (xs : List VIns) : Prop := ∀ x ∈ xs, WfIns x
theorem is_InsS (r : List D) (h : tyInsS.is r) : ∃ x, r = [dInsS x] ∧ WfInsS x := by
  rw [Ty.is] at h
  obtain ⟨ds, rfl, h⟩ := h
  obtain ⟨xs, rfl, hx⟩ := map_of2 el_Ins h
  exact ⟨xs, rfl, hx⟩
theorem el_InsS (d : D) (h : tyInsS.elem d) : ∃ x, d = dInsS x ∧ WfInsS x := by
  rw [Ty.elem] at h
  obtain ⟨ds, rfl, h⟩ := h
  obtain ⟨xs, rfl, hx⟩ := map_of2 el_Ins h
  exact ⟨xs, rfl, hx⟩
abbrev tyInsSS : Ty := .list tyInsS
def WfInsSS (xs : List (List VIns)) : Prop := ∀ x ∈ xs, WfInsS x
theorem is_InsSS (r : List D) (h : tyInsSS.is r) : ∃ x, r = [dInsSS x] ∧ WfInsSS x := by
  rw [Ty.is] at h
  obtain ⟨ds, rfl, h⟩ := h
  obtain ⟨xs, rfl, hx⟩ := map_of2 el_InsS h
  exact ⟨xs, rfl, hx⟩
theorem el_InsSS (d : D) (h : tyInsSS.elem d) : ∃ x, d = dInsSS x ∧ WfInsSS x := by
  rw [Ty.elem] at h
  obtain ⟨ds, rfl, h⟩ := h
  obtain ⟨xs, rfl, hx⟩ := map_of2 el_InsS h
  exact ⟨xs, rfl, hx⟩
abbrev tyInsSSS : Ty := .list tyInsSS
def WfInsSSS (xs : List (List (List VIns))) : Prop := ∀ x ∈ xs, WfInsSS x
theorem is_InsSSS (r : List D) (h : tyInsSSS.is r) : ∃ x, r = [dInsSSS x] ∧ WfInsSSS x := by
  rw [Ty.is] at h
  obtain ⟨ds, rfl, h⟩ := h
  obtain ⟨xs, rfl, hx⟩ := map_of2 el_InsSS h
  exact ⟨xs, rfl, hx⟩
theorem el_InsSSS (d : D) (h : tyInsSSS.elem d) : ∃ x, d = dInsSSS x ∧ WfInsSSS x := by
  rw [Ty.elem] at h
  obtain ⟨ds, rfl, h⟩ := h
  obtain ⟨xs, rfl, hx⟩ := map_of2 el_InsSS h
  exact ⟨xs, rfl, hx⟩
abbrev tyAct : Ty := .st [tyInt, tyInt, tyInt, tyInt, tyInt, tyInt]
def WfAct (x : VAct) : Prop := WfInt x.Kind ∧ WfInt x.M ∧ WfInt x.G ∧ WfInt x.X ∧ WfInt x.Y ∧ WfInt x.Z
theorem isL_Act (r : List D) (h : isL [tyInt, tyInt, tyInt, tyInt, tyInt, tyInt] r) : ∃ x, r = rAct x ∧ WfAct x := by
  obtain ⟨a0, b0, e0, g0, h0⟩ := isL_cons h
  obtain ⟨x0, e00, w0⟩ := is_Int _ g0
  obtain ⟨a1, b1, e1, g1, h1⟩ := isL_cons h0
  obtain ⟨x1, e11, w1⟩ := is_Int _ g1
  obtain ⟨a2, b2, e2, g2, h2⟩ := isL_cons h1
  obtain ⟨x2, e22, w2⟩ := is_Int _ g2
  obtain ⟨a3, b3, e3, g3, h3⟩ := isL_cons h2
  obtain ⟨x3, e33, w3⟩ := is_Int _ g3
  obtain ⟨a4, b4, e4, g4, h4⟩ := isL_cons h3
  obtain ⟨x4, e44, w4⟩ := is_Int _ g4
  obtain ⟨a5, b5, e5, g5, h5⟩ := isL_cons h4
  obtain ⟨x5, e55, w5⟩ := is_Int _ g5
  have en := isL_nil h5
  exact ⟨⟨x0, x1, x2, x3, x4, x5⟩, by rw [e0, e00, e1, e11, e2, e22, e3, e33, e4, e44, e5, e55, en]; rfl, ⟨w0, w1, w2, w3, w4, w5⟩⟩
theorem is_Act (r : List D) (h : tyAct.is r) : ∃ x, r = rAct x ∧ WfAct x := by
  rw [Ty.is] at h
  exact isL_Act r h
theorem el_Act (d : D) (h : tyAct.elem d) : ∃ x, d = dAct x ∧ WfAct x := by
  rw [Ty.elem] at h
  obtain ⟨r, rfl, h⟩ := h
  obtain ⟨x, rfl, hx⟩ := isL_Act r h
  exact ⟨x, rfl, hx⟩
abbrev tyActS : Ty := .list tyAct
def WfActS (xs : List VAct) : Prop := ∀ x ∈ xs, WfAct x
theorem is_ActS (r : List D) (h : tyActS.is r) : ∃ x, r = [dActS x] ∧ WfActS x := by
  rw [Ty.is] at h
  obtain ⟨ds, rfl, h⟩ := h
  obtain ⟨xs, rfl, hx⟩ := map_of2 el_Act h
  exact ⟨xs, rfl, hx⟩
theorem el_ActS (d : D) (h : tyActS.elem d) : ∃ x, d = dActS x ∧ WfActS x := by
  rw [Ty.elem] at h
  obtain ⟨ds, rfl, h⟩ := h
  obtain ⟨xs, rfl, hx⟩ := map_of2 el_Act h
  exact ⟨xs, rfl, hx⟩
abbrev tyScript : Ty := .st [tyInsSSS, tyActS]
def WfScript (x : VScript) : Prop := WfInsSSS x.All ∧ WfActS x.Acts
theorem isL_Script (r : List D) (h : isL [tyInsSSS, tyActS] r) : ∃ x, r = rScript x ∧ WfScript x := by
  obtain ⟨a0, b0, e0, g0, h0⟩ := isL_cons h
  obtain ⟨x0, e00, w0⟩ := is_InsSSS _ g0
  obtain ⟨a1, b1, e1, g1, h1⟩ := isL_cons h0
  obtain ⟨x1, e11, w1⟩ := is_ActS _ g1
  have en := isL_nil h1
  exact ⟨⟨x0, x1⟩, by rw [e0, e00, e1, e11, en]; rfl, ⟨w0, w1⟩⟩
theorem is_Script (r : List D) (h : tyScript.is r) : ∃ x, r = rScript x ∧ WfScript x := by
  rw [Ty.is] at h
  exact isL_Script r h
theorem el_Script (d : D) (h : tyScript.elem d) : ∃ x, d = dScript x ∧ WfScript x := by
  rw [Ty.elem] at h
  obtain ⟨r, rfl, h⟩ := h
  obtain ⟨x, rfl, hx⟩ := isL_Script r h
  exact ⟨x, rfl, hx⟩

theorem contract (H : Type) (enc : TypeId × Value → H) (W : World) (base : Nat) (args : Array Value) (ds gs : List (DataW H)) (before : List MemPlace)
    (hval : ∀ (j : Nat) t v, Tryd.f5.params[j]? = some t → args[j]? = some v → Value.okWide Tryd.prog W .any base t v)
    (hL : Tab W) (hW : DataW.Whole enc Tryd.prog Tryd.f5.params.toList Rows.fnExactScriptLinesSpec.vars false W args.toList ds gs before) :
    Calls Tryd.prog 5 args W fun e W' => ∃ v, e = .returned v ∧ Rows.fnExactScriptLinesSpec.post enc Tryd.prog Tryd.f5 false true false false W args v W' := by
  have hW' := hW
  obtain ⟨p, q, hA0, hV, rfl, hfz, hnd⟩ := hW
  have hA : DataW.TrodAll enc Tryd.prog W 0 (fun _ => true) true Tryd.f5.params.toList args.toList ds p := hA0
  rw [Tryd.params5] at hA hval
  obtain ⟨v0, vs0, d0, ds0, p0, q0, hargs0, rfl, rfl, h0, r0⟩ := trodAll_cons hA
  obtain ⟨rfl, rfl, rfl⟩ := trodAll_nil r0
  obtain rfl : args = #[v0] := by cases args; simp_all
  obtain ⟨rfl, rfl⟩ := trodVars_none hV
  clear hA0
  simp only [List.append_nil] at hW'
  have hlt : ∀ x ∈ (p0), x.block < W.heap.size := fun x hx => hW'.lt x hx
  obtain ⟨us0, hv0, _⟩ := okWide_struct Tryd.underlying53 (hval 0 53 v0 rfl rfl)
  obtain ⟨l0, hl0, hrep0⟩ := arg_struct (fs := [tyInsSSS, tyActS]) (by kernel_rfl) h0 hv0
  obtain ⟨x0, rfl, hwf0⟩ := isL_Script l0 hl0
  refine (FunAt.done ((laws_FnExactScriptLines_f x0) W hL) (args := #[v0]) rfl fun g hg i t u hi hu => ?_).mono fun e W' ⟨he, hb⟩ => ?_
  · match i, hi, hu with
    | 0, hi, hu =>
      have hi' := Option.some.inj hi
      have hu' : v0 = u := by simpa using hu
      subst hi'; subst hu'
      exact hrep0 g hg
  · subst he
    exact ⟨_, rfl, post_of_below (pa := (p0)) (pv := []) hW' (fun _ _ _ => (trodAll_cons_mk (shut_bool Tryd.underlying4 _) trodAll_mk0))
      (fun sp hsp => by
        have := trodAll_mk1 (WideElems.Trod_stays (by kernel_rfl) (by kernel_rfl) (of_decide_eq_true (by kernel_rfl)) h0 (fun x hx => hb.same (hlt x (by simp [hx]))) (fun x hx => hsp x (by simp [hx])))
        exact this) (fun _ _ => rfl) (by simp)
      hb (ok_one (by kernel_rfl) rfl (okWide_bool_mk Tryd.underlying4 _))⟩

abbrev laidL : List (String × DataW Unit) := Rows.fnExactScriptLinesRow.laid
theorem laid_tab {W : World} (h : laidMetH Tryd.prog laidL W) : Tab W := by
  rw [MakeChecks.laidMetH_plain _ _ _ (by kernel_rfl)] at h
  have h' := h.filter (fun x => x.1 == "internal/strconv.uint64pow10")
  have e : laidL.filter (fun x => x.1 == "internal/strconv.uint64pow10") = [("internal/strconv.uint64pow10", Lib.tabData .u64 Lib.pow10Tab)] := by kernel_rfl
  rw [e] at h'
  exact Lib.tabIs_of_head (g := 3) (by kernel_rfl) (by kernel_rfl) Tryd.underlying208 Tryd.underlying193 (by kernel_rfl) (by kernel_rfl) h'

theorem door_met (os : Os) (args : Array Value) : laidMetH Tryd.prog laidL ((World.doorLaid Tryd.prog 400 os).forCall (fun _ _ => 0) ⟨#[], args, []⟩).memory :=
  laidMetH_of_parts3 (fuel := 8) (laidMet_of_run' 8 (by kernel_rfl) (by kernel_rfl)) (by kernel_rfl) (by kernel_rfl)

theorem lifted (os : Os) (started : os.Started) (H : Type) (enc : TypeId × Value → H) :
    ReturnsInHanded {} Tryd.checked os 5 .any (fun w args => (Rows.fnExactScriptLinesSpec.pre enc Tryd.prog Tryd.f5 Rows.fnExactScriptLinesRow.domain false w args ∧ laidMetH Tryd.prog laidL w) ∧ sizedMet enc Tryd.prog Tryd.f5 (OpenSpec.ofChange Rows.fnExactScriptLinesSpec) false w args)
      (Rows.fnExactScriptLinesSpec.post enc Tryd.prog Tryd.f5 false true false false) := by
  refine returnsInHanded_of_change_and (C := Tryd.checked) (X := fun w _ => laidMetH Tryd.prog laidL w) (fun _ _ _ hh h => h.of_heap hh) own started (by kernel_rfl) Tryd.func5
    (ChangeSpec.witness_shaped (enc := enc) (C := Tryd.checked) (os := os) (X := fun w _ => laidMetH Tryd.prog laidL w) false (World.doorLaid Tryd.prog 400 os) #[.agg #[.slice none 0 0, .slice none 0 0]] 8 rfl (World.shaped_of_RefB (by kernel_rfl) (by kernel_rfl)) (by kernel_rfl) (by kernel_rfl) (by kernel_rfl) (door_met os _)) ?_
  intro W base args ds gs before hval hW _ _ hL _
  exact contract H enc W base args ds gs before hval (laid_tab hL) hW

theorem proved : Rows.FnExactScriptLinesSaid :=
  OpenClaim.holds_of_wide 5 Tryd.f5 rfl rfl rfl rfl rfl rfl rfl ⟨rfl, rfl, rfl, rfl, rfl⟩ rfl rfl rfl rfl rfl (by kernel_rfl) Tryd.func5 (by kernel_rfl)
    (of_decide_eq_true (by kernel_rfl)) (by unfold Func.isWrapper; first | (rw [if_pos (by decide +kernel)]; kernel_rfl) | (rw [if_neg (by decide +kernel)]; exact ⟨rfl, rfl⟩))
    (fun os started H enc _ => lifted os started H enc)

theorem card_proved : Rows.FnExactScriptLinesCardSaid :=
  Claim7.holds_tied_plain_at .later [] [.data, .data, .data] true (true, "8f304b5c5a6b73c66da0778d159686fb6615cb1bff508bba6463c49019a62f26") true
    proved (fun _ h => by cases h) (by kernel_rfl) (fun _ h => by cases h) fnExactScriptLines_row_tie rfl ⟨rfl, rfl⟩ (by kernel_rfl) rfl
    (fun f fn hf hfn => by
      obtain rfl : f = 5 := Option.some.inj ((show Tryd.prog.funcNamed "loop.example/g00975/laws.FnExactScriptLines" = some 5 by kernel_rfl).symm.trans hf) |>.symm
      obtain rfl : fn = Tryd.f5 := (Option.some.inj (Tryd.func5.symm.trans hfn)).symm
      exact ⟨by kernel_rfl, fun j t ht => by
        rw [Tryd.params5] at ht
        have hm := Array.mem_of_getElem? ht
        simp only [List.mem_toArray, List.mem_cons, List.not_mem_nil, or_false] at hm
        rcases hm with rfl <;> exact (show Tryd.prog.wantsStandIn _ = false by kernel_rfl)⟩)
    (by kernel_rfl)

end Go.Proofs.YtdlpmcjpbcbbjaaDoor.ExactScriptLines
#print axioms Go.Proofs.YtdlpmcjpbcbbjaaDoor.ExactScriptLines.card_proved

