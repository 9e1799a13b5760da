
import Derived.Test.YteelmdpahpggkaaGreatNtp
import Derived.Test.YteelmdpahpggkaaGreatNup
import Derived.Test.YteelmdpahpggkaaGreatHbp
import Derived.Test.YteelmdpahpggkaaGreatHdp
import Derived.Test.YteelmdpahpggkaaGreatHep
import Derived.Test.YteelmdpahpggkaaGreatRows
import Derived.WalkKit
import Derived.WalkSpells
import Derived.WalkLawsBesides
import Derived.ProofKit
import Derived.OpenShut
import Derived.Lib.Hide
import Derived.Test.YteelmdpahpggkaaGreatT2p
import Derived.Carry
namespace Go.Proofs.YteelmdpahpggkaaGreat.T
open Go
set_option linter.unusedVariables false
set_option linter.unusedSimpArgs false
set_option maxRecDepth 100000
set_option maxHeartbeats 8000000
theorem cap_Bare {x : VBare} (h : SmBare x) : cntEBare x ≤ 10000000000000 := by
 have h1 := cap_IntSS h.1
 have h2 := cap_GuestS h.2.1
 have h3 := cap_IntS h.2.2
 unfold cntEBare
 omega
theorem cap_BareS3 {xs : List VBare} (h : SmBareS xs) (h3 : xs.length ≤ 3) : cntBareS xs ≤ 30000000000000 := by
 have h2 : cntBareS xs ≤ 10000000000000 * xs.length := cntFold_most (c := cntEBare) fun x hx => cap_Bare (h.2 x hx)
 have h6 : (10000000000000 : Int) * xs.length ≤ 10000000000000 * 3 := Int.mul_le_mul_of_nonneg_left (by omega) (by decide)
 omega
theorem cap_ToldS {xs : List VTold} (h : SmToldS xs) : cntToldS xs ≤ 2097152 := by
 have := cntFold_cap (c := cntETold) (N := 2) (by decide) (fun x _ => by simp [cntETold]) h
 unfold cntToldS
 omega
theorem szActS_eq {xs : List VAct} {n : Int} (h : 0 ≤ szActS xs n) : szActS xs n = n - xs.length := by
 unfold szActS at h ⊢
 split at h
 ·omega
 ·rename_i h1; rw [if_neg h1]
theorem lifeB_len : ∀ {l : List VAct} {s : List VBare}, (lifeOf bareAct l s).length = s.length
 | [], s => rfl
 | a :: l, s => by show (lifeOf bareAct l (bareAct s a).1).length = _; rw [lifeB_len, len_bareAct]
theorem stayed_law {x : List (List (List VIns))} {f t : List VAct} (hx : SmInsSSS x) (h : f.length + t.length ≤ 1048576) : SmBareS (stayedLife x f t).1 ∧ SmToldS (stayedLife x f t).2 ∧ cntBareS (stayedLife x f t).1 ≤ 30000000000000 ∧ cntToldS (stayedLife x f t).2 ≤ 2097152 := by
 have h1 : SmBareS (stayedLife x f t).1 := sm_life (sm_bareLife hx)
 have h2 : SmToldS (stayedLife x f t).2 := by
  have e : (stayedLife x f t).2.length ≤ f.length + t.length := by
   show ((bareLife x f).2 ++ toldOf bareAct (ofZero t) (bareLife x f).1).length ≤ _
   rw [List.length_append, told_len]
   have h3 : (bareLife x f).2.length ≤ f.length := by show (toldOf _ _ _).length ≤ _; rw [told_len, List.length_take]; exact Nat.min_le_right _ _
   have h4 : (ofZero t).length ≤ t.length := List.length_filter_le ..
   omega
  unfold SmToldS
  omega
 have h5 : (stayedLife x f t).1.length ≤ 3 := by
  show (lifeOf bareAct _ (lifeOf bareAct _ _)).length ≤ 3
  rw [lifeB_len, lifeB_len, List.length_map, List.length_take]
  omega
 exact ⟨h1, h2, cap_BareS3 h1 h5, cap_ToldS h2⟩
theorem laws_FnExactStayedLife_f (x : List (List (List VIns))) (f : List VAct) (t : List VAct) : Fun Tryz.prog 9 [L 1 (x.map dInsSS), L 6 (f.map dAct), L 6 (t.map dAct)] (RV (.bool true)) := by
 refine Fun.w 158 Tryz.func9 fun w g0 _ => ?_
 refine callP (laws_szInsSSS_f x 1048576 (by omega) (by omega)).k ?_
 refine cnd (fun hb => ?_) (fun hb => ?_)
 ·exact rfl
 ·have hx0 : 0 ≤ szInsSSS x 1048576 := by omega
  have hx := (szInsSSS_ok x 1048576 hx0).2 (by omega)
  have hle := (szInsSSS_ok x 1048576 hx0).1
  have hcv := szInsSSS_cnt x 1048576 hx0
  have hcn := cntInsSSS_nn x
  have : Q (SmInsSSS x) := ⟨hx⟩
  refine callP (laws_szActS_f f (szInsSSS x 1048576) (by omega) (by omega)).k ?_
  refine cnd (fun hb2 => ?_) (fun hb2 => ?_)
  ·exact rfl
  ·have hf0 : 0 ≤ szActS f (szInsSSS x 1048576) := by omega
   have hf := (szActS_ok f _ hf0).2 (by omega)
   have hfl := (szActS_ok f _ hf0).1
   have hcf := szActS_cnt f _ hf0
   have hcnf := cntActS_nn f
   have hfe := szActS_eq hf0
   have : Q (SmActS f) := ⟨hf⟩
   refine callP (laws_szActS_f t (szActS f (szInsSSS x 1048576)) (by omega) (by omega)).k ?_
   refine cnd (fun hb3 => ?_) (fun hb3 => ?_)
   ·exact rfl
   ·have ht0 : 0 ≤ szActS t (szActS f (szInsSSS x 1048576)) := by omega
    have ht := (szActS_ok t _ ht0).2 (by omega)
    have htl := (szActS_ok t _ ht0).1
    have hct := szActS_cnt t _ ht0
    have hcnt := cntActS_nn t
    have hte := szActS_eq ht0
    have : Q (SmActS t) := ⟨ht⟩
    obtain ⟨hs1, hs2, hb1, hb2⟩ := stayed_law (x := x) (f := f) (t := t) hx (by omega)
    have hn1 := cntBareS_nn (stayedLife x f t).1
    have hn2 := cntToldS_nn (stayedLife x f t).2
    refine callL (laws_toInsSSS_f x hx).k ?_
    refine callL (laws_toActS_f f hf).k ?_
    refine callL (laws_toActS_f t ht).k ?_
    refine callG (spec_StayedLife_f x f t).k ?_
    refine callL (laws_toInsSSS_f x hx).k ?_
    refine callL (laws_toActS_f f hf).k ?_
    refine callL (laws_toActS_f t ht).k ?_
    refine callG (impl_StayedLife_f x f t).k ?_
    refine callP (laws_eqBareS_f (stayedLife x f t).1 (stayedLife x f t).1).k ?_
    refine cnd (fun hg4 => ?_) (fun hg4 => ?_)
    ·(exfalso; first | omega | contradiction | simp_all; done)
    ·refine callP (laws_eqToldS_f (stayedLife x f t).2 (stayedLife x f t).2).k ?_
     refine cnd (fun hb4 => ?_) (fun hb4 => ?_)
     ·(exfalso; first | omega | contradiction | simp_all; done)
     ·refine callL (laws_toInsSSS_f x hx).k ?_
      refine callP (laws_eqInsSSS_f x x).k ?_
      refine cnd (fun hb5 => ?_) (fun hb5 => ?_)
      ·(exfalso; first | omega | contradiction | simp_all; done)
      ·refine callL (laws_toActS_f f hf).k ?_
       refine callP (laws_eqActS_f f f).k ?_
       refine cnd (fun hb6 => ?_) (fun hb6 => ?_)
       ·(exfalso; first | omega | contradiction | simp_all; done)
       ·refine callL (laws_toActS_f t ht).k ?_
        refine callP (laws_eqActS_f t t).k ?_
        refine cnd (fun hb7 => ?_) (fun hb7 => ?_)
        ·(exfalso; first | omega | contradiction | simp_all; done)
        ·refine callH [(46, 0)] (laws_markInsSSS_f x 1 (by omega) (by omega) hx) ?_
         refine callH [(48, 0)] (laws_markActS_f f (1 + cntInsSSS x) (by omega) (by omega) hf) ?_
         refine callH [(50, 0)] (laws_markActS_f t (1 + cntInsSSS x + cntActS f) (by omega) (by omega) ht) ?_
         refine cnd (fun hg2 => ?_) (fun hg2 => ?_)
         ·(exfalso; first | omega | contradiction | simp_all; done)
         ·refine callP (laws_eqBareS_f (stayedLife x f t).1 (stayedLife x f t).1).k ?_
          refine cnd (fun hg8 => ?_) (fun hg8 => ?_)
          ·(exfalso; first | omega | contradiction | simp_all; done)
          ·refine callP (laws_eqToldS_f (stayedLife x f t).2 (stayedLife x f t).2).k ?_
           refine cnd (fun hb8 => ?_) (fun hb8 => ?_)
           ·(exfalso; first | omega | contradiction | simp_all; done)
           ·refine callH [(55, 0)] (laws_markBareS_f (stayedLife x f t).1 1 (by omega) (by omega) hs1) ?_
            refine callH [(55, 1)] (laws_markToldS_f (stayedLife x f t).2 (1 + cntBareS (stayedLife x f t).1) (by omega) (by omega) hs2) ?_
            refine callP (laws_heldBareS_f (stayedLife x f t).1 1 (by omega) (by omega) hs1).k ?_
            refine cnd (fun hb9 => ?_) (fun hb9 => ?_)
            ·(exfalso; first | omega | contradiction | simp_all; done)
            ·refine callP (laws_heldToldS_f (stayedLife x f t).2 (1 + cntBareS (stayedLife x f t).1) (by omega) (by omega) hs2).k ?_
             refine cnd (fun hb10 => ?_) (fun hb10 => ?_)
             ·(exfalso; first | omega | contradiction | simp_all; done)
             ·refine cnd (fun hb11 => ?_) (fun hb11 => ?_)
              ·(exfalso; first | omega | contradiction | simp_all; done)
              ·refine callL (laws_toInsSSS_f x hx).k ?_
               refine callL (laws_toActS_f f hf).k ?_
               refine callL (laws_toActS_f t ht).k ?_
               refine callG (impl_StayedLife_f x f t).k ?_
               refine callP (laws_eqBareS_f (stayedLife x f t).1 (stayedLife x f t).1).k ?_
               refine cnd (fun hg4 => ?_) (fun hg4 => ?_)
               ·(exfalso; first | omega | contradiction | simp_all; done)
               ·refine callP (laws_eqToldS_f (stayedLife x f t).2 (stayedLife x f t).2).k ?_
                refine cnd (fun hb12 => ?_) (fun hb12 => ?_)
                ·(exfalso; first | omega | contradiction | simp_all; done)
                ·refine callP (laws_heldBareS_f (stayedLife x f t).1 1 (by omega) (by omega) hs1).k ?_
                 refine cnd (fun hb13 => ?_) (fun hb13 => ?_)
                 ·(exfalso; first | omega | contradiction | simp_all; done)
                 ·refine callP (laws_heldToldS_f (stayedLife x f t).2 (1 + cntBareS (stayedLife x f t).1) (by omega) (by omega) hs2).k ?_
                  refine cnd (fun hb14 => ?_) (fun hb14 => ?_)
                  ·(exfalso; first | omega | contradiction | simp_all; done)
                  ·refine cnd (fun hb15 => ?_) (fun hb15 => ?_)
                   ·(exfalso; first | omega | contradiction | simp_all; done)
                   ·exact rfl
end Go.Proofs.YteelmdpahpggkaaGreat.T

namespace Go.Proofs.YteelmdpahpggkaaGreat.Base
open Go.ChangeShapes Go.WideShapes Go.ChangeAt Go.RowKit
section
variable {H : Type} {enc : TypeId × Value → H} {P : Program}
theorem post_of_below {f : Func} {s : ChangeSpec} {apart fresh handsOn again : Bool} {W W' : World} {args : Array Value} {v : Value} {ds gs : List (DataW H)} {before pa pv : List MemPlace}
  (hW : DataW.Whole enc P f.params.toList s.vars apart W args.toList ds gs before)
  (hres : ∀ (b : Nat) (sp : Nat → Bool) (hd : Bool), DataW.TrodAll enc P W' b sp hd f.resultTypes.toList (v.resultList f.resultTypes.size) (s.fn H (ds ++ gs)).results [])
  (hargs : ∀ sp : Nat → Bool, (∀ p ∈ before, sp p.block = true) → DataW.TrodAll enc P W' 0 sp true f.params.toList args.toList (s.fn H (ds ++ gs)).args pa)
  (hvars : ∀ sp : Nat → Bool, (∀ p ∈ before, sp p.block = true) → DataW.TrodVars enc P W' sp s.vars (s.fn H (ds ++ gs)).vars pv)
  (hps : before = pa ++ pv) (hb : Below W.heap.size W W')
  (hok : ∀ (j : Nat) (t : TypeId) (r : Value), f.resultTypes[j]? = some t → (v.resultList f.resultTypes.size)[j]? = some r → Value.okWide P W' .any 0 t r) :
  s.post enc P f apart fresh handsOn again W args v W' := by
 have hlt : ∀ p ∈ before, p.block < W.heap.size := fun p hp => hW.lt p hp
 have hold : ∀ p ∈ before, (fun b => decide (b < W.heap.size)) p.block = true := fun p hp => by simpa using hlt p hp
 refine ⟨ds, gs, before, [], pa, pv, hW, hres _ _ _, hargs _ hold, hvars _ hold, World.keptBut_mono (fun p hp => ⟨hp, ?_⟩) (hb.frame (· ∈ before)), fun _ => ?_⟩
 ·rw [hps, List.mem_append] at hp
  exact Or.inr hp
 ·obtain ⟨_, _, _, _, _, hz, hn⟩ := hW
  refine ⟨hok, _, _, ([] ++ pa) ++ pv, ⟨[] ++ pa, pv, trodAll_append (hargs _ (fun _ _ => rfl)) (hres _ _ _), hvars _ (fun _ _ => rfl), rfl, ?_, ?_⟩, ?_⟩
  ·intro b off hp
   have hin : MemPlace.cell b off ∈ before := by rw [hps]; simpa using hp
   rw [hb.frozen (hlt _ hin)]
   exact hz b off hin
  ·intro ha
   have := hn ha
   rw [hps] at this
   simpa using this
  ·intro p hp _
   rw [hps]
   simpa using hp
end
theorem own : ownKnob Tryz.prog.godebug = none := by kernel_rfl
end Go.Proofs.YteelmdpahpggkaaGreat.Base

namespace Go.Proofs.YteelmdpahpggkaaGreat.ExactStayedLife
open Go.ChangeShapes Go.WideShapes Go.ChangeAt Go.RowKit Go.Proofs.YteelmdpahpggkaaGreat.Base Go.Proofs.YteelmdpahpggkaaGreat.T
set_option maxRecDepth 100000
def I64 (n : Int) : Prop := -9223372036854775808 ≤ n ∧ n ≤ 9223372036854775807
theorem i64_of {n : Int} (h : (Lit.int .i64 n).wf = true) : I64 n := by
 simp only [Lit.wf, Bool.and_eq_true, decide_eq_true_eq] at h
 have h1 : IntKind.i64.min = -9223372036854775808 := by decide
 have h2 : IntKind.i64.max = 9223372036854775807 := by decide
 rw [h1, h2] at h
 exact h
theorem isL_cons {t : Ty} {l : List Ty} {r : List D} (h : isL (t :: l) r) : ∃ a b, r = a ++ b ∧ t.is a ∧ isL l b := by rw [isL] at h; exact h
theorem isL_nil {r : List D} (h : isL [] r) : r = [] := by rw [isL] at h; exact h
theorem map_of2 {α : Type} {f : α → D} {q : α → Prop} {p : D → Prop} (h : ∀ d, p d → ∃ x, d = f x ∧ q x) : ∀ {ds : List D}, (∀ d ∈ ds, p d) → ∃ xs : List α, ds = xs.map f ∧ ∀ x ∈ xs, q x
 | [], _ => ⟨[], rfl, fun x hx => by cases hx⟩
 | d :: ds, hd => by
  obtain ⟨x, rfl, hx⟩ := h d (hd d List.mem_cons_self)
  obtain ⟨xs, rfl, hxs⟩ := map_of2 h (ds := ds) fun d' h' => hd d' (List.mem_cons_of_mem _ h')
  refine ⟨x :: xs, rfl, fun y hy => ?_⟩
  rcases List.mem_cons.1 hy with rfl | hy
  ·exact hx
  ·exact hxs y hy
abbrev tyInt : Ty := .int .i64
def WfInt (x : Int) : Prop := I64 x
theorem is_Int (r : List D) (h : tyInt.is r) : ∃ x, r = [dInt x] ∧ WfInt x := by
 simp only [Ty.is] at h
 obtain ⟨n, rfl, hw⟩ := h
 exact ⟨n, rfl, i64_of hw⟩
abbrev tyIns : Ty := .st [tyInt, tyInt]
def WfIns (x : VIns) : Prop := WfInt x.Op ∧ WfInt x.X
theorem isL_Ins (r : List D) (h : isL [tyInt, tyInt] r) : ∃ x, r = rIns x ∧ WfIns x := by
 obtain ⟨a0, b0, e0, g0, h0⟩ := isL_cons h
 obtain ⟨x0, e00, w0⟩ := is_Int _ g0
 obtain ⟨a1, b1, e1, g1, h1⟩ := isL_cons h0
 obtain ⟨x1, e11, w1⟩ := is_Int _ g1
 have en := isL_nil h1
 exact ⟨⟨x0, x1⟩, by rw [e0, e00, e1, e11, en]; rfl, ⟨w0, w1⟩⟩
theorem el_Ins (d : D) (h : tyIns.elem d) : ∃ x, d = dIns x ∧ WfIns x := by
 rw [Ty.elem] at h
 obtain ⟨r, rfl, h⟩ := h
 obtain ⟨x, rfl, hx⟩ := isL_Ins r h
 exact ⟨x, rfl, hx⟩
abbrev tyInsS : Ty := .list tyIns
def WfInsS (xs : List VIns) : Prop := ∀ x ∈ xs, WfIns x
theorem el_InsS (d : D) (h : tyInsS.elem d) : ∃ x, d = dInsS x ∧ WfInsS x := by
 rw [Ty.elem] at h
 obtain ⟨ds, rfl, h⟩ := h
 obtain ⟨xs, rfl, hx⟩ := map_of2 el_Ins h
 exact ⟨xs, rfl, hx⟩
abbrev tyInsSS : Ty := .list tyInsS
def WfInsSS (xs : List (List VIns)) : Prop := ∀ x ∈ xs, WfInsS x
theorem el_InsSS (d : D) (h : tyInsSS.elem d) : ∃ x, d = dInsSS x ∧ WfInsSS x := by
 rw [Ty.elem] at h
 obtain ⟨ds, rfl, h⟩ := h
 obtain ⟨xs, rfl, hx⟩ := map_of2 el_InsS h
 exact ⟨xs, rfl, hx⟩
abbrev tyInsSSS : Ty := .list tyInsSS
def WfInsSSS (xs : List (List (List VIns))) : Prop := ∀ x ∈ xs, WfInsSS x
theorem el_InsSSS (d : D) (h : tyInsSSS.elem d) : ∃ x, d = dInsSSS x ∧ WfInsSSS x := by
 rw [Ty.elem] at h
 obtain ⟨ds, rfl, h⟩ := h
 obtain ⟨xs, rfl, hx⟩ := map_of2 el_InsSS h
 exact ⟨xs, rfl, hx⟩
abbrev tyAct : Ty := .st [tyInt, tyInt, tyInt, tyInt, tyInt, tyInt]
def WfAct (x : VAct) : Prop := WfInt x.Kind ∧ WfInt x.M ∧ WfInt x.G ∧ WfInt x.X ∧ WfInt x.Y ∧ WfInt x.Z
theorem isL_Act (r : List D) (h : isL [tyInt, tyInt, tyInt, tyInt, tyInt, tyInt] r) : ∃ x, r = rAct x ∧ WfAct x := by
 obtain ⟨a0, b0, e0, g0, h0⟩ := isL_cons h
 obtain ⟨x0, e00, w0⟩ := is_Int _ g0
 obtain ⟨a1, b1, e1, g1, h1⟩ := isL_cons h0
 obtain ⟨x1, e11, w1⟩ := is_Int _ g1
 obtain ⟨a2, b2, e2, g2, h2⟩ := isL_cons h1
 obtain ⟨x2, e22, w2⟩ := is_Int _ g2
 obtain ⟨a3, b3, e3, g3, h3⟩ := isL_cons h2
 obtain ⟨x3, e33, w3⟩ := is_Int _ g3
 obtain ⟨a4, b4, e4, g4, h4⟩ := isL_cons h3
 obtain ⟨x4, e44, w4⟩ := is_Int _ g4
 obtain ⟨a5, b5, e5, g5, h5⟩ := isL_cons h4
 obtain ⟨x5, e55, w5⟩ := is_Int _ g5
 have en := isL_nil h5
 exact ⟨⟨x0, x1, x2, x3, x4, x5⟩, by rw [e0, e00, e1, e11, e2, e22, e3, e33, e4, e44, e5, e55, en]; rfl, ⟨w0, w1, w2, w3, w4, w5⟩⟩
theorem el_Act (d : D) (h : tyAct.elem d) : ∃ x, d = dAct x ∧ WfAct x := by
 rw [Ty.elem] at h
 obtain ⟨r, rfl, h⟩ := h
 obtain ⟨x, rfl, hx⟩ := isL_Act r h
 exact ⟨x, rfl, hx⟩
abbrev tyActS : Ty := .list tyAct
def WfActS (xs : List VAct) : Prop := ∀ x ∈ xs, WfAct x
theorem el_ActS (d : D) (h : tyActS.elem d) : ∃ x, d = dActS x ∧ WfActS x := by
 rw [Ty.elem] at h
 obtain ⟨ds, rfl, h⟩ := h
 obtain ⟨xs, rfl, hx⟩ := map_of2 el_Act h
 exact ⟨xs, rfl, hx⟩
theorem contract (H : Type) (enc : TypeId × Value → H) (W : World) (base : Nat) (args : Array Value) (ds gs : List (DataW H)) (before : List MemPlace)
  (hval : ∀ (j : Nat) t v, Tryz.f9.params[j]? = some t → args[j]? = some v → Value.okWide Tryz.prog W .any base t v)
  (hW : DataW.Whole enc Tryz.prog Tryz.f9.params.toList Rows.fnExactStayedLifeSpec.vars false W args.toList ds gs before) :
  Calls Tryz.prog 9 args W fun e W' => ∃ v, e = .returned v ∧ Rows.fnExactStayedLifeSpec.post enc Tryz.prog Tryz.f9 false true false false W args v W' := by
 have hW' := hW
 obtain ⟨p, q, hA0, hV, rfl, hfz, hnd⟩ := hW
 have hA : DataW.TrodAll enc Tryz.prog W 0 (fun _ => true) true Tryz.f9.params.toList args.toList ds p := hA0
 rw [Tryz.params9] at hA hval
 obtain ⟨v0, vs0, d0, ds0, p0, q0, hargs0, rfl, rfl, h0, r0⟩ := trodAll_cons hA
 obtain ⟨v1, vs1, d1, ds1, p1, q1, hargs1, rfl, rfl, h1, r1⟩ := trodAll_cons r0
 obtain ⟨v2, vs2, d2, ds2, p2, q2, hargs2, rfl, rfl, h2, r2⟩ := trodAll_cons r1
 obtain ⟨rfl, rfl, rfl⟩ := trodAll_nil r2
 obtain rfl : args = #[v0, v1, v2] := by cases args; simp_all
 obtain ⟨rfl, rfl⟩ := trodVars_none hV
 clear hA0
 simp only [List.append_nil] at hW'
 have hlt : ∀ x ∈ (p0 ++ (p1 ++ (p2))), x.block < W.heap.size := fun x hx => hW'.lt x hx
 obtain ⟨a0, len0, cap0, hv0⟩ := okWide_slice Tryz.underlying88 (hval 0 88 v0 rfl rfl)
 obtain ⟨l0, hl0, hrep0⟩ := arg_cell (e := tyInsSSS) (by kernel_rfl) h0 (by rw [hv0]; rfl) rfl
 obtain ⟨x0, rfl, hwf0⟩ := el_InsSSS l0 hl0
 obtain ⟨a1, len1, cap1, hv1⟩ := okWide_slice Tryz.underlying89 (hval 1 89 v1 rfl rfl)
 obtain ⟨l1, hl1, hrep1⟩ := arg_cell (e := tyActS) (by kernel_rfl) h1 (by rw [hv1]; rfl) rfl
 obtain ⟨x1, rfl, hwf1⟩ := el_ActS l1 hl1
 obtain ⟨a2, len2, cap2, hv2⟩ := okWide_slice Tryz.underlying89 (hval 2 89 v2 rfl rfl)
 obtain ⟨l2, hl2, hrep2⟩ := arg_cell (e := tyActS) (by kernel_rfl) h2 (by rw [hv2]; rfl) rfl
 obtain ⟨x2, rfl, hwf2⟩ := el_ActS l2 hl2
 refine (Fun.done (laws_FnExactStayedLife_f x0 x1 x2) (W := W) (args := #[v0, v1, v2]) rfl fun g hg i t u hi hu => ?_).mono fun e W' ⟨he, hb⟩ => ?_
 ·match i, hi, hu with
  | 0, hi, hu =>
   have hi' := Option.some.inj hi
   have hu' : v0 = u := by simpa using hu
   subst hi'; subst hu'
   exact hrep0 g hg
  | 1, hi, hu =>
   have hi' := Option.some.inj hi
   have hu' : v1 = u := by simpa using hu
   subst hi'; subst hu'
   exact hrep1 g hg
  | 2, hi, hu =>
   have hi' := Option.some.inj hi
   have hu' : v2 = u := by simpa using hu
   subst hi'; subst hu'
   exact hrep2 g hg
 ·subst he
  exact ⟨_, rfl, post_of_below (pa := (p0 ++ (p1 ++ (p2)))) (pv := []) hW' (fun _ _ _ => (trodAll_cons_mk (shut_bool Tryz.underlying4 _) trodAll_mk0))
   (fun sp hsp => by
    have := trodAll_cons_mk (WideElems.Trod_stays (by kernel_rfl) (by kernel_rfl) (of_decide_eq_true (by kernel_rfl)) h0 (fun x hx => hb.same (hlt x (by simp [List.mem_append, hx]))) (fun x hx => hsp x (by simp [List.mem_append, hx]))) (trodAll_cons_mk (WideElems.Trod_stays (by kernel_rfl) (by kernel_rfl) (of_decide_eq_true (by kernel_rfl)) h1 (fun x hx => hb.same (hlt x (by simp [List.mem_append, hx]))) (fun x hx => hsp x (by simp [List.mem_append, hx]))) (trodAll_mk1 (WideElems.Trod_stays (by kernel_rfl) (by kernel_rfl) (of_decide_eq_true (by kernel_rfl)) h2 (fun x hx => hb.same (hlt x (by simp [List.mem_append, hx]))) (fun x hx => hsp x (by simp [List.mem_append, hx])))))
    exact this) (fun _ _ => rfl) (by simp)
   hb (ok_one (by kernel_rfl) rfl (okWide_bool_mk Tryz.underlying4 _))⟩
theorem lifted (os : Os) (started : os.Started) (H : Type) (enc : TypeId × Value → H) :
  ReturnsInHanded {} Tryz.checked os 9 .any (Rows.fnExactStayedLifeSpec.pre6 enc Tryz.prog Tryz.f9 Rows.fnExactStayedLifeRow.domain false) (Rows.fnExactStayedLifeSpec.post enc Tryz.prog Tryz.f9 false true false false) := by
 refine returnsInHanded_of_change (C := Tryz.checked) own started (by kernel_rfl) Tryz.func9
  (ChangeSpec.witness6 (enc := enc) (C := Tryz.checked) false ⟨#[], #[.slice none 0 0, .slice none 0 0, .slice none 0 0], []⟩ 8 (by kernel_rfl) (by kernel_rfl) (by kernel_rfl) (by kernel_rfl)) ?_
 intro W base args ds gs before hval hW _ _
 exact contract H enc W base args ds gs before hval hW
set_option maxHeartbeats 8000000 in
theorem joined : joinedFacts Tryz.pinned.checked.prog 9 Tryz.f9 Rows.fnExactStayedLifeSpec Rows.fnExactStayedLifeRow = true := by
 unfold joinedFacts
 simp only [Bool.and_eq_true]
 repeat' apply And.intro
 all_goals (as_aux_lemma => kernel_rfl)
theorem proved : Rows.FnExactStayedLifeSaid :=
 OpenClaim.holds_of_wide 9 Tryz.f9 rfl rfl rfl rfl rfl rfl rfl ⟨rfl, rfl, rfl, rfl, rfl⟩ rfl rfl rfl rfl rfl (by kernel_rfl) Tryz.func9 joined
  (of_decide_eq_true (by kernel_rfl)) (by unfold Func.isWrapper; first | (rw [if_pos (by decide +kernel)]; kernel_rfl) | (rw [if_neg (by decide +kernel)]; exact ⟨rfl, rfl⟩))
  (fun os started H enc _ => lifted os started H enc)
end Go.Proofs.YteelmdpahpggkaaGreat.ExactStayedLife
#print axioms Go.Proofs.YteelmdpahpggkaaGreat.ExactStayedLife.proved

