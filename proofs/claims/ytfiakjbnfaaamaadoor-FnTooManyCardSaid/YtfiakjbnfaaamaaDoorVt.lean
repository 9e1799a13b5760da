/- a script is limited to three hypervisors, two guests each, and twelve instructions per guest -/
import Derived.Test.YtfiakjbnfaaamaaDoorYf
import Derived.Test.YtfiakjbnfaaamaaDoorT2
import Derived.Test.YtfiakjbnfaaamaaDoorBase
import Derived.Carry
import Derived.Lay
import Derived.Test.YtfiakjbnfaaamaaDoorTzl
import Derived.LaidMore
import Derived.Stop.LaidErr
import Derived.LaidSub
import Derived.LaidHandle
import Derived.Stop.Joined
import Derived.SevenTiedAt
import Derived.Test.YtfiakjbnfaaamaaDoorCards
import Derived.Test.YtfiakjbnfaaamaaDoorTie
import Derived.Test.YtfiakjbnfaaamaaDoorTzc
namespace Go.Proofs.YtfiakjbnfaaamaaDoor.TooMany
open Go.ChangeShapes Go.WideShapes Go.ChangeAt Go.RowKit Go.Proofs.YtfiakjbnfaaamaaDoor.Base Go.Proofs.YtfiakjbnfaaamaaDoor.T
set_option maxRecDepth 100000

/-- An int that fits. -/
def I64 (n : Int) : Prop := -9223372036854775808 ≤ n ∧ n ≤ 9223372036854775807
theorem i64_of {n : Int} (h : (Lit.int .i64 n).wf = true) : I64 n := by
  simp only [Lit.wf, Bool.and_eq_true, decide_eq_true_eq] at h
  have h1 : IntKind.i64.min = -9223372036854775808 := by decide
  have h2 : IntKind.i64.max = 9223372036854775807 := by decide
  rw [h1, h2] at h
  exact h
theorem isL_cons {t : Ty} {l : List Ty} {r : List D} (h : isL (t :: l) r) : ∃ a b, r = a ++ b ∧ t.is a ∧ isL l b := by rw [isL] at h; exact h
theorem isL_nil {r : List D} (h : isL [] r) : r = [] := by rw [isL] at h; exact h
theorem map_of2 {α : Type} {f : α → D} {q : α → Prop} {p : D → Prop} (h : ∀ d, p d → ∃ x, d = f x ∧ q x) : ∀ {ds : List D}, (∀ d ∈ ds, p d) → ∃ xs : List α, ds = xs.map f ∧ ∀ x ∈ xs, q x
  | [], _ => ⟨[], rfl, fun x hx => by cases hx⟩
  | d :: ds, hd => by
    obtain ⟨x, rfl, hx⟩ := h d (hd d List.mem_cons_self)
    obtain ⟨xs, rfl, hxs⟩ := map_of2 h (ds := ds) fun d' h' => hd d' (List.mem_cons_of_mem _ h')
    refine ⟨x :: xs, rfl, fun y hy => ?_⟩
    rcases List.mem_cons.1 hy with rfl | hy
    · exact hx
    · exact hxs y hy
theorem u8_of {n : Int} (h : (Lit.int .u8 n).wf = true) : 0 ≤ n ∧ n < 256 := by
  simp only [Lit.wf, Bool.and_eq_true, decide_eq_true_eq] at h
  have h1 : IntKind.u8.min = 0 := by decide
  have h2 : IntKind.u8.max = 255 := by decide
  rw [h1, h2] at h
  omega
abbrev dByte (x : Int) : D := .v (.int .u8 x)
abbrev dByteS (xs : List Int) : D := .sl 1 (xs.map dByte)
abbrev tyByte : Ty := .int .u8
def WfByte (x : Int) : Prop := 0 ≤ x ∧ x < 256
theorem is_Byte (r : List D) (h : tyByte.is r) : ∃ x, r = [dByte x] ∧ WfByte x := by
  simp only [Ty.is] at h
  obtain ⟨n, rfl, hw⟩ := h
  exact ⟨n, rfl, u8_of hw⟩
theorem el_Byte (d : D) (h : tyByte.elem d) : ∃ x, d = dByte x ∧ WfByte x := by
  simp only [Ty.elem] at h
  obtain ⟨n, rfl, hw⟩ := h
  exact ⟨n, rfl, u8_of hw⟩
theorem bytes_wf {xs : List Int} (h : ∀ x ∈ xs, WfByte x) : isBytes (xs.map dByte) := fun d hd => by
  obtain ⟨x, hx, rfl⟩ := List.mem_map.1 hd
  have h1 := h x hx
  unfold WfByte at h1
  exact ⟨x.toNat, by omega, by rw [Int.toNat_of_nonneg h1.1]⟩
abbrev tyByteS : Ty := .list tyByte
def WfByteS (xs : List Int) : Prop := ∀ x ∈ xs, WfByte x
theorem is_ByteS (r : List D) (h : tyByteS.is r) : ∃ x, r = [dByteS x] ∧ WfByteS x := by
  rw [Ty.is] at h
  obtain ⟨ds, rfl, h⟩ := h
  obtain ⟨xs, rfl, hx⟩ := map_of2 el_Byte h
  exact ⟨xs, rfl, hx⟩
theorem el_ByteS (d : D) (h : tyByteS.elem d) : ∃ x, d = dByteS x ∧ WfByteS x := by
  rw [Ty.elem] at h
  obtain ⟨ds, rfl, h⟩ := h
  obtain ⟨xs, rfl, hx⟩ := map_of2 el_Byte h
  exact ⟨xs, rfl, hx⟩

theorem contract (H : Type) (enc : TypeId × Value → H) (W : World) (base : Nat) (args : Array Value) (ds gs : List (DataW H)) (before : List MemPlace)
    (hval : ∀ (j : Nat) t v, Tryd.f4.params[j]? = some t → args[j]? = some v → Value.okWide Tryd.prog W .any base t v)
    (hL : TabS W) (hW : DataW.Whole enc Tryd.prog Tryd.f4.params.toList Rows.fnTooManySpec.vars false W args.toList ds gs before) :
    Calls Tryd.prog 4 args W fun e W' => ∃ v, e = .returned v ∧ Rows.fnTooManySpec.post enc Tryd.prog Tryd.f4 false true false false W args v W' := by
  have hW' := hW
  obtain ⟨p, q, hA0, hV, rfl, hfz, hnd⟩ := hW
  have hA : DataW.TrodAll enc Tryd.prog W 0 (fun _ => true) true Tryd.f4.params.toList args.toList ds p := hA0
  rw [Tryd.params4] at hA hval
  obtain ⟨v0, vs0, d0, ds0, p0, q0, hargs0, rfl, rfl, h0, r0⟩ := trodAll_cons hA
  obtain ⟨rfl, rfl, rfl⟩ := trodAll_nil r0
  obtain rfl : args = #[v0] := by cases args; simp_all
  obtain ⟨rfl, rfl⟩ := trodVars_none hV
  clear hA0
  simp only [List.append_nil] at hW'
  have hlt : ∀ x ∈ (p0), x.block < W.heap.size := fun x hx => hW'.lt x hx
  obtain ⟨a0, len0, cap0, hv0⟩ := okWide_slice Tryd.underlying22 (hval 0 22 v0 rfl rfl)
  obtain ⟨l0, hl0, hrep0⟩ := arg_cell (e := tyByteS) (by kernel_rfl) h0 (by rw [hv0]; rfl) rfl
  obtain ⟨x0, rfl, hwf0⟩ := el_ByteS l0 hl0
  refine (FunAt.done ((laws_FnTooMany_f (x0.map dByte) (bytes_wf hwf0)) W hL) (args := #[v0]) rfl fun g hg i t u hi hu => ?_).mono fun e W' ⟨he, hb⟩ => ?_
  · match i, hi, hu with
    | 0, hi, hu =>
      have hi' := Option.some.inj hi
      have hu' : v0 = u := by simpa using hu
      subst hi'; subst hu'
      exact hrep0 g hg
  · subst he
    exact ⟨_, rfl, post_of_below (pa := (p0)) (pv := []) hW' (fun _ _ _ => (trodAll_cons_mk (shut_bool Tryd.underlying4 _) trodAll_mk0))
      (fun sp hsp => by
        have := trodAll_mk1 (WideElems.Trod_stays (by kernel_rfl) (by kernel_rfl) (of_decide_eq_true (by kernel_rfl)) h0 (fun x hx => hb.same (hlt x (by simp [hx]))) (fun x hx => hsp x (by simp [hx])))
        exact this) (fun _ _ => rfl) (by simp)
      hb (ok_one (by kernel_rfl) rfl (okWide_bool_mk Tryd.underlying4 _))⟩

abbrev laidL : List (String × DataW Unit) := Rows.fnTooManyRow.laid
theorem laid_tab {W : World} (h : laidMetH Tryd.prog laidL W) : Tab W := by
  rw [MakeChecks.laidMetH_plain _ _ _ (by kernel_rfl)] at h
  have h' := h.filter (fun x => x.1 == "internal/strconv.uint64pow10")
  have e : laidL.filter (fun x => x.1 == "internal/strconv.uint64pow10") = [("internal/strconv.uint64pow10", Lib.tabData .u64 Lib.pow10Tab)] := by kernel_rfl
  rw [e] at h'
  exact Lib.tabIs_of_head (g := 0) (by kernel_rfl) (by kernel_rfl) Tryd.underlying91 Tryd.underlying76 (by kernel_rfl) (by kernel_rfl) h'

theorem star_err : "*" ++ "errors.errorString" = "*errors.errorString" := by decide
theorem row_err (u : TypeId) (h : Tryd.prog.typeName? 3 u = some "*errors.errorString") : u = 122 :=
  typeName_ptr_named (nm := "errors.errorString") (by rw [star_err]; kernel_rfl) (by kernel_rfl) (by decide) u (by rw [star_err]; exact h)
theorem laid_err {W : World} (h : laidMetH Tryd.prog laidL W) : TabE W := by
  refine ⟨laid_tab h, ?_, ?_⟩
  · rw [MakeChecks.laidMetH_plain _ _ _ (by kernel_rfl)] at h
    have h' := h.filter (fun x => x.1 == "strconv.ErrSyntax")
    have e : laidL.filter (fun x => x.1 == "strconv.ErrSyntax") = [("strconv.ErrSyntax", .iface "*errors.errorString" (.ptr (.agg [.lit (.string [105, 110, 118, 97, 108, 105, 100, 32, 115, 121, 110, 116, 97, 120])])))] := by kernel_rfl
    rw [e] at h'
    obtain ⟨a, s, hv, _, _, _⟩ := laid_sentinel (g := 6) h' (by kernel_rfl) (ti := 85) (by kernel_rfl) Tryd.underlying85 row_err Tryd.underlying122 Tryd.underlying124 rfl rfl Tryd.underlying9 (by kernel_rfl) (by kernel_rfl)
    exact ⟨_, _, (World.var?_cell (g := 6) (by kernel_rfl) hv 0).trans rfl⟩
  · rw [MakeChecks.laidMetH_plain _ _ _ (by kernel_rfl)] at h
    have h' := h.filter (fun x => x.1 == "strconv.ErrRange")
    have e : laidL.filter (fun x => x.1 == "strconv.ErrRange") = [("strconv.ErrRange", .iface "*errors.errorString" (.ptr (.agg [.lit (.string [118, 97, 108, 117, 101, 32, 111, 117, 116, 32, 111, 102, 32, 114, 97, 110, 103, 101])])))] := by kernel_rfl
    rw [e] at h'
    obtain ⟨a, s, hv, _, _, _⟩ := laid_sentinel (g := 7) h' (by kernel_rfl) (ti := 85) (by kernel_rfl) Tryd.underlying85 row_err Tryd.underlying122 Tryd.underlying124 rfl rfl Tryd.underlying9 (by kernel_rfl) (by kernel_rfl)
    exact ⟨_, _, (World.var?_cell (g := 7) (by kernel_rfl) hv 0).trans rfl⟩

theorem lifted (os : Os) (started : os.Started) (H : Type) (enc : TypeId × Value → H) :
    ReturnsInHanded {} Tryd.checked os 4 .any (fun w args => (Rows.fnTooManySpec.pre enc Tryd.prog Tryd.f4 Rows.fnTooManyRow.domain false w args ∧ laidMetH Tryd.prog laidL w) ∧ sizedMet enc Tryd.prog Tryd.f4 (OpenSpec.ofChange Rows.fnTooManySpec) false w args)
      (Rows.fnTooManySpec.post enc Tryd.prog Tryd.f4 false true false false) := by
  refine handed_and_shaped (C := Tryd.checked) (X := fun w _ => laidMetH Tryd.prog laidL w) (fun _ _ _ hh h => h.of_heap hh) own started (by kernel_rfl) Tryd.func4
    (ChangeSpec.witness_shaped (enc := enc) (C := Tryd.checked) (os := os) (X := fun w _ => laidMetH Tryd.prog laidL w) false (World.laidAll Tryd.prog os laidL) #[.slice none 0 0] 8 (World.laidAll_os _ _ _) (World.shaped_of_ZipB (by kernel_rfl) (by kernel_rfl)) (by kernel_rfl) (by kernel_rfl) (by kernel_rfl) (by rw [MakeChecks.laidMetH_plain _ _ _ (by kernel_rfl)]; exact laidMet_laidAll _ (by kernel_rfl) (by kernel_rfl))) ?_
  intro W base args ds gs before hval hW hsh hL
  exact contract H enc W base args ds gs before hval ⟨laid_err hL, laysSplit.s1_3 _ hsh⟩ hW

theorem proved : Rows.FnTooManySaid :=
  OpenClaim.holds_of_wide 4 Tryd.f4 rfl rfl rfl rfl rfl rfl rfl ⟨rfl, rfl, rfl, rfl, rfl⟩ rfl rfl rfl rfl rfl (by kernel_rfl) Tryd.func4 (by kernel_rfl)
    (of_decide_eq_true (by kernel_rfl)) (by unfold Func.isWrapper; first | (rw [if_pos (by decide +kernel)]; kernel_rfl) | (rw [if_neg (by decide +kernel)]; exact ⟨rfl, rfl⟩))
    (fun os started H enc _ => lifted os started H enc)

theorem card_proved : Rows.FnTooManyCardSaid :=
  Claim7.holds_tied_plain_at .later [] [.data, .data, .data, .data, .sentinel, .sentinel, .pinned] true (true, "7327ef36dd4e755496d4ca7491cd3c7ee1ace1437ead0a3f2a443554df3d2c20") true
    proved (fun _ h => by cases h) (by kernel_rfl) (fun _ h => by cases h) fnTooMany_row_tie rfl ⟨rfl, rfl⟩ (by kernel_rfl) rfl
    (fun f fn hf hfn => by
      obtain rfl : f = 4 := Option.some.inj ((show Tryd.prog.funcNamed "loop.example/g00975/laws.FnTooMany" = some 4 by kernel_rfl).symm.trans hf) |>.symm
      obtain rfl : fn = Tryd.f4 := (Option.some.inj (Tryd.func4.symm.trans hfn)).symm
      exact ⟨by kernel_rfl, fun j t ht => by
        rw [Tryd.params4] at ht
        have hm := Array.mem_of_getElem? ht
        simp only [List.mem_toArray, List.mem_cons, List.not_mem_nil, or_false] at hm
        rcases hm with rfl <;> exact (show Tryd.prog.wantsStandIn _ = false by kernel_rfl)⟩)
    (by kernel_rfl)

end Go.Proofs.YtfiakjbnfaaamaaDoor.TooMany
#print axioms Go.Proofs.YtfiakjbnfaaamaaDoor.TooMany.card_proved

