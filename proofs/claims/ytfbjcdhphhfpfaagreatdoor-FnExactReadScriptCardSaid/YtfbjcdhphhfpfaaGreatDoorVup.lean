/- the program's ReadScript returns what the reference's returns, for every string -/
import Derived.Test.YtfbjcdhphhfpfaaGreatDoorYkp
import Derived.Test.YtfbjcdhphhfpfaaGreatDoorT2p
import Derived.Test.YtfbjcdhphhfpfaaGreatDoorBasep
import Derived.Carry
import Derived.Lay
import Derived.Test.YtfbjcdhphhfpfaaGreatDoorTzlp
import Derived.LaidMore
import Derived.Stop.LaidErr
import Derived.LaidSub
import Derived.LaidHandle
import Derived.Stop.Joined
import Derived.SevenTiedAt
import Derived.Test.YtfbjcdhphhfpfaaGreatDoorCards
import Derived.Test.YtfbjcdhphhfpfaaGreatDoorTie
import Derived.Test.YtfbjcdhphhfpfaaGreatDoorTzcp
namespace Go.Proofs.YtfbjcdhphhfpfaaGreatDoor.ExactReadScript
open Go.ChangeShapes Go.WideShapes Go.ChangeAt Go.RowKit Go.Proofs.YtfbjcdhphhfpfaaGreatDoor.Base Go.Proofs.YtfbjcdhphhfpfaaGreatDoor.T
set_option maxRecDepth 100000

/-- An int that fits. -/
def I64 (n : Int) : Prop := -9223372036854775808 ≤ n ∧ n ≤ 9223372036854775807
abbrev tyStr : Ty := .str
def WfStr (x : ByteArray) : Prop := x.size ≤ maxLen
theorem el_Str (d : D) (h : tyStr.elem d) : ∃ x, d = dStr x ∧ WfStr x := by
  simp only [Ty.elem] at h
  obtain ⟨n, rfl, hw⟩ := h
  exact ⟨n, rfl, hw⟩

theorem contract (H : Type) (enc : TypeId × Value → H) (W : World) (base : Nat) (args : Array Value) (ds gs : List (DataW H)) (before : List MemPlace)
    (hval : ∀ (j : Nat) t v, Tryz.f3.params[j]? = some t → args[j]? = some v → Value.okWide Tryz.prog W .any base t v)
    (hL : TabS W) (hW : DataW.Whole enc Tryz.prog Tryz.f3.params.toList Rows.fnExactReadScriptSpec.vars false W args.toList ds gs before) :
    Calls Tryz.prog 3 args W fun e W' => ∃ v, e = .returned v ∧ Rows.fnExactReadScriptSpec.post enc Tryz.prog Tryz.f3 false true false false W args v W' := by
  have hW' := hW
  obtain ⟨p, q, hA0, hV, rfl, hfz, hnd⟩ := hW
  have hA : DataW.TrodAll enc Tryz.prog W 0 (fun _ => true) true Tryz.f3.params.toList args.toList ds p := hA0
  rw [Tryz.params3] at hA hval
  obtain ⟨v0, vs0, d0, ds0, p0, q0, hargs0, rfl, rfl, h0, r0⟩ := trodAll_cons hA
  obtain ⟨rfl, rfl, rfl⟩ := trodAll_nil r0
  obtain rfl : args = #[v0] := by cases args; simp_all
  obtain ⟨rfl, rfl⟩ := trodVars_none hV
  clear hA0
  simp only [List.append_nil] at hW'
  have hlt : ∀ x ∈ (p0), x.block < W.heap.size := fun x hx => hW'.lt x hx
  obtain ⟨a0, hv0⟩ := okWide_string Tryz.underlying9 (hval 0 9 v0 rfl rfl)
  obtain ⟨l0, hl0, hrep0⟩ := arg_cell (e := tyStr) (by kernel_rfl) h0 (by rw [hv0]; rfl) rfl
  obtain ⟨x0, rfl, hwf0⟩ := el_Str l0 hl0
  refine (FunAt.done ((laws_FnExactReadScript_f x0) W hL) (args := #[v0]) rfl fun g hg i t u hi hu => ?_).mono fun e W' ⟨he, hb⟩ => ?_
  · match i, hi, hu with
    | 0, hi, hu =>
      have hi' := Option.some.inj hi
      have hu' : v0 = u := by simpa using hu
      subst hi'; subst hu'
      exact hrep0 g hg
  · subst he
    exact ⟨_, rfl, post_of_below (pa := (p0)) (pv := []) hW' (fun _ _ _ => (trodAll_cons_mk (shut_bool Tryz.underlying4 _) trodAll_mk0))
      (fun sp hsp => by
        have := trodAll_mk1 (WideElems.Trod_stays (by kernel_rfl) (by kernel_rfl) (of_decide_eq_true (by kernel_rfl)) h0 (fun x hx => hb.same (hlt x (by simp [hx]))) (fun x hx => hsp x (by simp [hx])))
        exact this) (fun _ _ => rfl) (by simp)
      hb (ok_one (by kernel_rfl) rfl (okWide_bool_mk Tryz.underlying4 _))⟩

abbrev laidL : List (String × DataW Unit) := Rows.fnExactReadScriptRow.laid
theorem laid_tab {W : World} (h : laidMetH Tryz.prog laidL W) : Tab W := by
  rw [MakeChecks.laidMetH_plain _ _ _ (by kernel_rfl)] at h
  have h' := h.filter (fun x => x.1 == "internal/strconv.uint64pow10")
  have e : laidL.filter (fun x => x.1 == "internal/strconv.uint64pow10") = [("internal/strconv.uint64pow10", Lib.tabData .u64 Lib.pow10Tab)] := by kernel_rfl
  rw [e] at h'
  exact Lib.tabIs_of_head (g := 5) (by kernel_rfl) (by kernel_rfl) Tryz.underlying128 Tryz.underlying110 (by kernel_rfl) (by kernel_rfl) h'

theorem star_err : "*" ++ "errors.errorString" = "*errors.errorString" := by decide
theorem row_err (u : TypeId) (h : Tryz.prog.typeName? 3 u = some "*errors.errorString") : u = 124 :=
  typeName_ptr_named (nm := "errors.errorString") (by rw [star_err]; kernel_rfl) (by kernel_rfl) (by decide) u (by rw [star_err]; exact h)
theorem laid_err {W : World} (h : laidMetH Tryz.prog laidL W) : TabE W := by
  refine ⟨laid_tab h, ?_, ?_⟩
  · rw [MakeChecks.laidMetH_plain _ _ _ (by kernel_rfl)] at h
    have h' := h.filter (fun x => x.1 == "strconv.ErrSyntax")
    have e : laidL.filter (fun x => x.1 == "strconv.ErrSyntax") = [("strconv.ErrSyntax", .iface "*errors.errorString" (.ptr (.agg [.lit (.string [105, 110, 118, 97, 108, 105, 100, 32, 115, 121, 110, 116, 97, 120])])))] := by kernel_rfl
    rw [e] at h'
    obtain ⟨a, s, hv, _, _, _⟩ := laid_sentinel (g := 3) h' (by kernel_rfl) (ti := 87) (by kernel_rfl) Tryz.underlying87 row_err Tryz.underlying124 Tryz.underlying126 rfl rfl Tryz.underlying9 (by kernel_rfl) (by kernel_rfl)
    exact ⟨_, _, (World.var?_cell (g := 3) (by kernel_rfl) hv 0).trans rfl⟩
  · rw [MakeChecks.laidMetH_plain _ _ _ (by kernel_rfl)] at h
    have h' := h.filter (fun x => x.1 == "strconv.ErrRange")
    have e : laidL.filter (fun x => x.1 == "strconv.ErrRange") = [("strconv.ErrRange", .iface "*errors.errorString" (.ptr (.agg [.lit (.string [118, 97, 108, 117, 101, 32, 111, 117, 116, 32, 111, 102, 32, 114, 97, 110, 103, 101])])))] := by kernel_rfl
    rw [e] at h'
    obtain ⟨a, s, hv, _, _, _⟩ := laid_sentinel (g := 4) h' (by kernel_rfl) (ti := 87) (by kernel_rfl) Tryz.underlying87 row_err Tryz.underlying124 Tryz.underlying126 rfl rfl Tryz.underlying9 (by kernel_rfl) (by kernel_rfl)
    exact ⟨_, _, (World.var?_cell (g := 4) (by kernel_rfl) hv 0).trans rfl⟩

theorem lifted (os : Os) (started : os.Started) (H : Type) (enc : TypeId × Value → H) :
    ReturnsInHanded {} Tryz.checked os 3 .any (fun w args => (Rows.fnExactReadScriptSpec.pre enc Tryz.prog Tryz.f3 Rows.fnExactReadScriptRow.domain false w args ∧ laidMetH Tryz.prog laidL w) ∧ sizedMet enc Tryz.prog Tryz.f3 (OpenSpec.ofChange Rows.fnExactReadScriptSpec) false w args)
      (Rows.fnExactReadScriptSpec.post enc Tryz.prog Tryz.f3 false true false false) := by
  refine handed_and_shaped (C := Tryz.checked) (X := fun w _ => laidMetH Tryz.prog laidL w) (fun _ _ _ hh h => h.of_heap hh) own started (by kernel_rfl) Tryz.func3
    (ChangeSpec.witness_shaped (enc := enc) (C := Tryz.checked) (os := os) (X := fun w _ => laidMetH Tryz.prog laidL w) false (World.laidAll Tryz.prog os laidL) #[.string ⟨#[]⟩] 8 (World.laidAll_os _ _ _) (World.shaped_of_ZipB (by kernel_rfl) (by kernel_rfl)) (by kernel_rfl) (by kernel_rfl) (by kernel_rfl) (by rw [MakeChecks.laidMetH_plain _ _ _ (by kernel_rfl)]; exact laidMet_laidAll _ (by kernel_rfl) (by kernel_rfl))) ?_
  intro W base args ds gs before hval hW hsh hL
  exact contract H enc W base args ds gs before hval ⟨laid_err hL, laysSplit.s1_3 _ hsh⟩ hW

theorem proved : Rows.FnExactReadScriptSaid :=
  OpenClaim.holds_of_wide 3 Tryz.f3 rfl rfl rfl rfl rfl rfl rfl ⟨rfl, rfl, rfl, rfl, rfl⟩ rfl rfl rfl rfl rfl (by kernel_rfl) Tryz.func3 (by kernel_rfl)
    (of_decide_eq_true (by kernel_rfl)) (by unfold Func.isWrapper; first | (rw [if_pos (by decide +kernel)]; kernel_rfl) | (rw [if_neg (by decide +kernel)]; exact ⟨rfl, rfl⟩))
    (fun os started H enc _ => lifted os started H enc)

theorem card_proved : Rows.FnExactReadScriptCardSaid :=
  Claim7.holds_tied_plain_at .later [] [.data, .data, .data, .data, .sentinel, .sentinel, .pinned] true (true, "07be1e66589aafa089073bf2ca13b06aa35dd55e11f17ba7c4c7b364a6c0b766") true
    proved (fun _ h => by cases h) (by kernel_rfl) (fun _ h => by cases h) fnExactReadScript_row_tie rfl ⟨rfl, rfl⟩ (by kernel_rfl) rfl
    (fun f fn hf hfn => by
      obtain rfl : f = 3 := Option.some.inj ((show Tryz.prog.funcNamed "loop.example/g00975/laws.FnExactReadScript" = some 3 by kernel_rfl).symm.trans hf) |>.symm
      obtain rfl : fn = Tryz.f3 := (Option.some.inj (Tryz.func3.symm.trans hfn)).symm
      exact ⟨by kernel_rfl, fun j t ht => by
        rw [Tryz.params3] at ht
        have hm := Array.mem_of_getElem? ht
        simp only [List.mem_toArray, List.mem_cons, List.not_mem_nil, or_false] at hm
        rcases hm with rfl <;> exact (show Tryz.prog.wantsStandIn _ = false by kernel_rfl)⟩)
    (by kernel_rfl)

end Go.Proofs.YtfbjcdhphhfpfaaGreatDoor.ExactReadScript
#print axioms Go.Proofs.YtfbjcdhphhfpfaaGreatDoor.ExactReadScript.card_proved

