
import Derived.Test.YtcmoifejjodgcaaRjp
import Derived.Test.YtcmoifejjodgcaaTzop
namespace Go.Proofs.Ytcmoifejjodgcaa.T
open Go
set_option linter.unusedVariables false
set_option linter.unusedSimpArgs false
def unownW : List C → (List D → Prop) → Prop
 | [], k => k []
 | c :: l, k => match c with
  | .own d => unownW l fun l => k (d :: l)
  | _ => False
theorem unownW_of : ∀ {l : List C} {k : List D → Prop}, unownW l k → ∃ ds, l = ds.map C.own ∧ k ds
 | [], k, h => ⟨[], rfl, h⟩
 | c :: l, k, h => by
  unfold unownW at h
  split at h
  ·obtain ⟨ds, h1, h2⟩ := unownW_of (l := l) h
   exact ⟨_ :: ds, by simp [h1], h2⟩
  ·exact h.elim
def noneOf (k : Nat) : List (Nat × Nat) → Bool
 | [] => true
 | (a, _) :: l => !(Nat.beq a k) && noneOf k l
theorem noneOf_all {k : Nat} : ∀ {l : List (Nat × Nat)}, noneOf k l = true → (l.all fun s => s.1 != k) = true
 | [], _ => rfl
 | (a, q) :: l, h => by
  simp only [noneOf, Bool.and_eq_true, Bool.not_eq_true'] at h
  have hne : a ≠ k := fun e => by subst e; simp at h
  simp only [List.all_cons, Bool.and_eq_true, bne_iff_ne, ne_eq]
  exact ⟨hne, noneOf_all h.2⟩
def endR2 (P : Program) (n : Nat) (rv : List ResultVar) (hk : Nat) (hm : Bool) (hl : Nat) (R : List D → Res → Prop) (e : List En) (rs : Rs) : Prop :=
 ressW P n e rs rv fun tvs => BR (Nat.ble rv.length 4 && nodupB (tvs.flatMap refV) && noneOf hk (tvs.flatMap refV)) (contsW rs (tvs.flatMap refV) fun row => rootW rs hk fun m row' => BR (m == hm) (unownW row' fun ds => BR (Nat.beq ds.length hl)
  (R ds ⟨row, fun k => resT (tvs.map (gathV (tvs.flatMap refV) k))⟩) False) False) False
def endW2 (P : Program) (n : Nat) (rv : List ResultVar) (hk : Nat) (hm : Bool) (hl : Nat) (R : List D → Res → Prop) : Kx := fun ex e rs => match ex with
 | .normal => endR2 P n rv hk hm hl R e rs
 | .ret => endR2 P n rv hk hm hl R e rs
 | _ => False
theorem endW2_of {P : Program} {n : Nat} {fn : Func} {h : Hand} {R : List D → Res → Prop} {ex : Exit} {st : St} (hh : Lf n (endW2 P n fn.results.toList h.k h.mem h.row.length R) ex st) : Ends2 P fn h R ex st := by
 obtain ⟨e, rs, rfl, hh⟩ := hh
 have key : endR2 P n fn.results.toList h.k h.mem h.row.length R e rs → ∀ ex, (ex = .normal ∨ ex = .ret) → Ends2 P fn h R ex (stOf n e rs) := fun hh ex hex => by
  obtain ⟨tvs, h1, h2⟩ := ressW_of hh
  obtain ⟨h3, h4⟩ := BR_yes h2
  simp only [Bool.and_eq_true] at h3
  obtain ⟨row, h5, h6⟩ := contsW_of (n := n) (e := e) h4
  obtain ⟨m, row', h7, h8⟩ := rootW_of (n := n) (e := e) h6
  obtain ⟨h9, h10⟩ := BR_yes h8
  have h9 : m = h.mem := by simpa using h9
  obtain ⟨ds, h11, h12⟩ := unownW_of h10
  obtain ⟨h13, h14⟩ := BR_yes h12
  subst h9
  subst h11
  exact ⟨hex, fn.results.toList, tvs, row, ds, rfl, Nat.le_of_ble_eq_true h3.1.1, h1, nodupB_of h3.1.2, h5, h7, Nat.eq_of_beq_eq_true h13, noneOf_all h3.2, h14⟩
 unfold endW2 at hh
 split at hh
 ·exact key hh _ (.inl rfl)
 ·exact key hh _ (.inr rfl)
 ·exact hh.elim
def handR (h : Hand) (k : Nat → Bool → Nat → Rs → Prop) : Prop := match h with
 | ⟨m, row⟩ => BR m (ownsW row fun cs => k 1000001 true row.length [(1000001, ⟨true, cs⟩)]) (ownsW row fun cs => k 1000000 false row.length [(1000000, ⟨false, cs⟩)])
theorem handR_of {h : Hand} {k : Nat → Bool → Nat → Rs → Prop} (hh : handR h k) : k h.k h.mem h.row.length [(h.k, ⟨h.mem, h.row.map C.own⟩)] := by
 obtain ⟨m, row⟩ := h
 rcases BR_iff.1 hh with ⟨rfl, h1⟩ | ⟨rfl, h1⟩
 ·exact ownsW_of h1
 ·exact ownsW_of h1
theorem Fun2.w {P : Program} {f : FuncId} {fn : Func} {c : Code} {h : Hand} {pts : List TS} {R : List D → Res → Prop} (n : Nat) (hf : P.funcs[f]? = some fn)
  (hh : ∀ w g0, mostS pts → argsW 0 pts fun e => handR h fun hk hm hl rs => wC P w g0 n c e rs (endW2 P n fn.results.toList hk hm hl R))
  (hb : fn.body = some c := by exact rfl) (hn : fn.ntmps = n := by exact rfl) (hl0 : Nat.ble pts.length n = true := by exact rfl) : Fun2 P f h pts R := by
 have hl := Nat.le_of_ble_eq_true hl0
 subst hn
 refine Fun2.of hf hb hl fun w g0 => TC.mostS fun hM => ?_
 obtain ⟨e, h1, h2⟩ := argsW_of (m := 0) (hh w g0 hM)
 rw [args_st hl h1]
 exact (wC_of (handR_of h2)).mono fun ex st hl => endW2_of hl
def endWK (P : Program) (n : Nat) (rv : List ResultVar) (hl q0 : Nat) (R : List D → Res → Prop) : Kx := fun ex e rs => rootW rs 1000000 fun _ row => nthW row 0 fun c => match c with
 | .ref ⟨k, p, q⟩ => (match p with
  | [] => BR (Nat.beq k 1000001 && Nat.beq q q0) (endW2 P n rv 1000001 true hl R ex e rs) False
  | _ => False)
 | _ => False
theorem Fun2K.w {P : Program} {f : FuncId} {fn : Func} {c : Code} {row : List D} {q0 : Nat} {pts : List TS} {R : List D → Res → Prop} (n : Nat) (hf : P.funcs[f]? = some fn) {sz : Nat} {ds : List D} (hq : row[q0]? = some (.sl sz ds))
  (hh : ∀ w g0, mostS pts → argsW 0 pts fun e => ownsW row fun cs => wC P w g0 n c e [(1000001, ⟨true, cs⟩), (1000000, ⟨false, [.ref ⟨1000001, [], q0⟩]⟩)] (endWK P n fn.results.toList row.length q0 R))
  (hp : pts.map (TS.kill (fun pl => Nat.beq pl.k pinK) fun _ => false) = pts := by exact rfl)
  (hb : fn.body = some c := by exact rfl) (hn : fn.ntmps = n := by exact rfl) (hl0 : Nat.ble pts.length n = true := by exact rfl) : Fun2K P f row q0 pts R := by
 have hl := Nat.le_of_ble_eq_true hl0
 subst hn
 refine Fun2K.of hf hb hl hp hq fun w g0 => TC.mostS fun hM => ?_
 obtain ⟨e, h1, h2⟩ := argsW_of (m := 0) (hh w g0 hM)
 rw [args_st hl h1]
 refine (wC_of (ownsW_of h2)).mono fun ex st ⟨e, rs, h3, h4⟩ => ?_
 subst h3
 obtain ⟨m, row', h5, h6⟩ := rootW_of (n := fn.ntmps) (e := e) h4
 obtain ⟨c, h7, h8⟩ := nthW_of h6
 split at h8
 ·split at h8
  rotate_left
  ·exact h8.elim
  obtain ⟨h9, h10⟩ := BR_yes h8
  simp only [Bool.and_eq_true, Nat.beq_eq] at h9
  obtain ⟨rfl, rfl⟩ := h9
  exact ⟨endW2_of (h := ⟨true, row⟩) ⟨e, rs, rfl, h10⟩, _, h5, h7⟩
 ·exact h8.elim
section
variable {P : Program} {w0 : World} {g0 : Gh} {st : St}
theorem OpT.call2 {o : Oper} {st' : St} {Q : St → Prop} {f : FuncId} {cx : Operand} {args : List Operand} {tys : Array TypeId} {fn : Func}
  (ho : o.op = .call { callee := .value cx, args := args.toArray, argTypes := tys }) (hcx : T.opd 0 st cx = some (.fn f [])) (hf : P.funcs[f]? = some fn) (hb : fn.body.isNone = false)
  (hn : (fn.name == "runtime.NumGoroutine") = false) {ts ts' : List TS} (hx : opds st args = some ts) {h : Hand} {rows : List D} {t : TS} {x : Value} (hc : Fun2 P f h ts' (RP2 rows t)) {srcs : List (Nat × Nat)} {bx : Option Nat}
  (hC : CanHand st h srcs bx 999999) (hs : GivesAll st srcs bx h.k ts ts') (hp : freeS t = some x)
  (hpt : (st.handed srcs h.mem rows 999999).put o.dst t = st') (hq : Q st') : OpT P w0 g0 o st Q := fun a w g hR K Q' hK => by
 have h1 := hR.opds hx
 have h2 := hs.get
 have hcall := hc w (g.hand w.heap.size srcs bx h.k) (args.map a.eval).toArray 999999 (by decide) (hR.handed hC) (by simp [h1.1, h2.1]) (fun i t' u hi hu => by
  obtain ⟨t, h3, h4⟩ := h2.2 i t' hi
  exact hR.giveS hC h4 (h1.2 i t u h3 (by simpa using hu)))
 unfold Oper.wp
 rw [run_enter hR ho hcx hf hb hn w]
 refine hcall.mono fun e w' ⟨v, row', r, g', he, ⟨hr1, hr2⟩, hG⟩ => ?_
 subst he
 subst hr1
 have h5 := hG.val
 rw [hr2] at h5
 have h6 := (freeS_inv hp).1 h5
 subst h6
 obtain ⟨g2, hR2, _⟩ := hR.called2 hC hG
 exact hK _ _ _ _ hq (hpt ▸ hR2.put ((freeS_inv hp).2 rfl) o.dst)
end
section
variable {P : Program} {w0 : World} {g0 : Gh} {st : St}
theorem OpT.call2K {o : Oper} {st' : St} {Q : St → Prop} {f : FuncId} {cx : Operand} {args : List Operand} {tys : Array TypeId} {fn : Func}
  (ho : o.op = .call { callee := .value cx, args := args.toArray, argTypes := tys }) (hcx : T.opd 0 st cx = some (.fn f [])) (hf : P.funcs[f]? = some fn) (hb : fn.body.isNone = false)
  (hn : (fn.name == "runtime.NumGoroutine") = false) {ts ts' : List TS} (hx : opds st args = some ts) {row rows : List D} {q0 : Nat} {t : TS} {x : Value} (hc : Fun2K P f row q0 ts' (RP2 rows t)) {kb : Nat}
  (hC : CanHand st ⟨true, row⟩ (boxSrc kb row.length) (some kb) 999999) (hs : GivesAll st (boxSrc kb row.length) (some kb) 1000001 ts ts') (hp : freeS t = some x)
  {s i q' sz : Nat} {ds ds' : List D} (hq0 : row[q0]? = some (.sl sz ds)) (hq1 : rows[q0]? = some (.sl sz ds')) (hi : i < ds.length) (hi' : i < ds'.length) (hsl : st.tmps[s]? = some (.one (.ptr ⟨kb, [(q0, i)], q'⟩)))
  (hpt : ((st.handed (boxSrc kb row.length) true rows 999999).put (some s) (.one (.ptr ⟨kb, [(q0, i)], q'⟩))).put o.dst t = st') (hq : Q st') : OpT P w0 g0 o st Q := fun a w g hR K Q' hK => by
 have h1 := hR.opds hx
 have h2 := hs.get
 have hcall := hc w (g.hand w.heap.size (boxSrc kb row.length) (some kb) 1000001) (args.map a.eval).toArray 999999 (by decide) (hR.handed hC) (by simp [h1.1, h2.1]) (fun i t' u hi hu => by
  obtain ⟨t, h3, h4⟩ := h2.2 i t' hi
  exact hR.giveS hC h4 (h1.2 i t u h3 (by simpa using hu)))
 unfold Oper.wp
 rw [run_enter hR ho hcx hf hb hn w]
 refine hcall.mono fun e w' ⟨v, row', r, g', he, ⟨hr1, hr2⟩, hG, hpin⟩ => ?_
 subst he
 subst hr1
 have h5 := hG.val
 rw [hr2] at h5
 have h6 := (freeS_inv hp).1 h5
 subst h6
 obtain ⟨g2, hR2, _, _, hcv⟩ := hR.called2 hC hG
 obtain ⟨kb', r', e1, e2, e3, e4, e5, e6⟩ := hC.boxSome rfl
 simp only [Option.some.injEq] at e1
 subst e1
 have hq0l : q0 < row.length := (List.getElem?_eq_some_iff.1 hq0).1
 have hidx := boxSrc_get (kb := kb) hq0l
 obtain ⟨hv, hO2⟩ := hcv kb q0 q0 e6 hidx
 have hO2 := hO2 _ hq1
 have hO1 : Ow w g kb [] q0 (.sl sz ds) := by
  obtain ⟨s', h1, h2⟩ := (contents_get hC.cont).2 q0 _ hq0
  have h3 := idxOf_some hidx
  rw [h3] at h1
  simp only [Option.some.injEq] at h1
  subst h1
  exact (hR.cellAt h2).1 _ rfl
 have hcv2 : g2.cv kb [] q0 = g.cv kb [] q0 := by
  rw [hv, show g'.cv (Hand.k ⟨true, row⟩) [] q0 = g'.cv pinB [] q0 from rfl, hpin]
  have h3 := idxOf_some hidx
  simp [Gh.hand, pinB, h3]
 have had : g2.ad kb [(q0, i)] = g.ad kb [(q0, i)] := by
  cases hO1 with
  | nil => simp at hi
  | sl _ _ _ _ b off n c cs e hc hn hm hnc hcm ho hb hfit hrow had =>
   cases hO2 with
   | nil => simp at hi'
   | sl _ _ _ _ b2 off2 n2 c2 cs2 e2 hc2 hn2 hm2 hnc2 hcm2 ho2 hb2 hfit2 hrow2 had2 =>
    have hc2 : g2.cv kb [] q0 = _ := hc2
    have hc : g.cv kb [] q0 = _ := hc
    rw [hcv2, hc] at hc2
    injection hc2 with e1 e2 e3
    injection e1 with e1
    injection e1 with e4 e5
    subst e4 e5
    have g1 := had i (by omega)
    have g3 := had2 i (by omega)
    simp only [List.nil_append] at g1 g3
    rw [g1, g3]
 have hold := hR.tm s _ hsl
 have hptr : RepS w' g2 (.one (.ptr ⟨kb, [(q0, i)], q'⟩)) (a.tmps.getD s undef) := by
  generalize a.tmps.getD s undef = u at hold
  cases hold with
  | one _ _ hu => cases hu with
   | ptr _ =>
    have := RepT.ptr (w := w') (g := g2) ⟨kb, [(q0, i)], q'⟩
    simp only [had] at this
    exact .one _ _ this
 have hR3 : Rel w0 g0 ((st.handed (boxSrc kb row.length) true row' 999999).put (some s) (.one (.ptr ⟨kb, [(q0, i)], q'⟩))) a w' g2 := by
  refine ⟨fun j tv hj => ?_, by simpa [St.put] using hR2.sz, hR2.df, ⟨hR2.rt.cell, hR2.rt.mem⟩, hR2.ks⟩
  simp only [St.put, List.getElem?_set] at hj
  by_cases e : s = j
  ·subst e
   rw [if_pos rfl] at hj
   split at hj
   ·simp only [Option.some.injEq] at hj
    subst hj
    exact hptr
   ·cases hj
  ·rw [if_neg e] at hj
   exact hR2.tm j tv hj
 exact hK _ _ _ _ hq (hpt ▸ hR3.put ((freeS_inv hp).2 rfl) o.dst)
end
section
variable {P : Program} {w0 : World} {g0 : Gh} {st : St} {k1 q0 i0 j sz sz2 : Nat} {ds ds2 : List D} {e : D} {rt : Rt}
end
def handedR (rs : Rs) (srcs : List (Nat × Nat)) (m : Bool) (rows : List D) : Rs := ((⟨[], rs⟩ : St).handed srcs m rows 999999).roots
def handedW (srcs : List (Nat × Nat)) (m : Bool) (rows : List D) (e : List En) (rs : Rs) (K : Kn) : Prop := normW 0 rs (handedR rs srcs m rows) fun rs => K (.app (TS.kill (killR srcs m 999999) (killP srcs 999999)) :: e) rs
theorem handedW_of {n : Nat} {srcs : List (Nat × Nat)} {m : Bool} {rows : List D} {e : List En} {rs : Rs} {K : Kn} (h : handedW srcs m rows e rs K) : Lg n K ((stOf n e rs).handed srcs m rows 999999) := by
 have h1 : (stOf n e rs).handed srcs m rows 999999 = stOf n (.app (TS.kill (killR srcs m 999999) (killP srcs 999999)) :: e) (handedR rs srcs m rows) := stOf_app
 rw [h1]
 exact .mk (normW_of h)
section
variable {P : Program} {w0 : World} {g0 : Gh} {n : Nat} {e : List En} {rs : Rs} {K : Kn} {f : FuncId} {ts pts : List TS} {dst : Option Nat}
theorem callX (kb : Nat) {row rows : List D} {t : TS} {x : Value} (hc : Fun2 P f ⟨true, row⟩ pts (RP2 rows t)) (hk : handedW (boxSrc kb row.length) true rows e rs fun e rs => putW dst t e rs K)
  (hC : CanHand (stOf n e rs) ⟨true, row⟩ (boxSrc kb row.length) (some kb) 999999 := by exact .bx rfl)
  (hs : GivesAll (stOf n e rs) (boxSrc kb row.length) (some kb) 1000001 ts pts := by (repeat first | exact .nil | refine GivesAll.cons (.ptr rfl) ?_ | refine GivesAll.cons (.ptrD rfl) ?_ | refine GivesAll.cons (.c (.ro _)) ?_ | refine GivesAll.cons (.c (.snap rfl WD.w rfl)) ?_ | refine GivesAll.cons (.cptr _) ?_ | refine GivesAll.cons (.fn _) ?_ | refine GivesAll.cons (.fnC _ _ rfl) ?_ | refine GivesAll.cons (.agg (by repeat first | exact .nil | refine GiveCs.cons (.ro _) ?_ | refine GiveCs.cons (.snap rfl WD.w rfl) ?_)) ?_); done)
  (hp : freeS t = some x := by exact rfl) (hf : Callable P f := by exact .mk rfl rfl rfl) : CallW false P w0 g0 n e rs f ts dst K := ⟨fun o cx args tys ho hcx hd hx => by
 obtain ⟨fn, h1, h2, h3⟩ := hf
 obtain ⟨e1, rs1, h4, h5⟩ := handedW_of (n := n) hk
 refine OpT.call2 (h := ⟨true, row⟩) ho hcx h1 h2 h3 hx hc hC hs hp rfl ?_
 rw [h4, hd]
 exact putW_of h5⟩
theorem callK (kb q0 s i q' : Nat) {row rows : List D} {t : TS} {x : Value} {sz : Nat} {ds ds' : List D} (hc : Fun2K P f row q0 pts (RP2 rows t)) (hq0 : row[q0]? = some (.sl sz ds)) (hq1 : rows[q0]? = some (.sl sz ds')) (hi : i < ds.length) (hi' : i < ds'.length)
  (hk : handedW (boxSrc kb row.length) true rows e rs fun e rs => putW (some s) (.one (.ptr ⟨kb, [(q0, i)], q'⟩)) e rs fun e rs => putW dst t e rs K)
  (hsl : (stOf n e rs).tmps[s]? = some (.one (.ptr ⟨kb, [(q0, i)], q'⟩)) := by exact rfl)
  (hC : CanHand (stOf n e rs) ⟨true, row⟩ (boxSrc kb row.length) (some kb) 999999 := by exact .bx rfl)
  (hs : GivesAll (stOf n e rs) (boxSrc kb row.length) (some kb) 1000001 ts pts := by (repeat first | exact .nil | refine GivesAll.cons (.ptr rfl) ?_ | refine GivesAll.cons (.ptrD rfl) ?_ | refine GivesAll.cons (.c (.ro _)) ?_ | refine GivesAll.cons (.c (.snap rfl WD.w rfl)) ?_ | refine GivesAll.cons (.cptr _) ?_ | refine GivesAll.cons (.fn _) ?_ | refine GivesAll.cons (.fnC _ _ rfl) ?_ | refine GivesAll.cons (.agg (by repeat first | exact .nil | refine GiveCs.cons (.ro _) ?_ | refine GiveCs.cons (.snap rfl WD.w rfl) ?_)) ?_); done)
  (hp : freeS t = some x := by exact rfl) (hf : Callable P f := by exact .mk rfl rfl rfl) : CallW false P w0 g0 n e rs f ts dst K := ⟨fun o cx args tys ho hcx hd hx => by
 obtain ⟨fn, h1, h2, h3⟩ := hf
 obtain ⟨e1, rs1, h4, h5⟩ := handedW_of (n := n) hk
 obtain ⟨e2, rs2, h6, h7⟩ := putW_of (n := n) h5
 refine OpT.call2K ho hcx h1 h2 h3 hx hc hC hs hp hq0 hq1 hi hi' hsl rfl ?_
 rw [h4, h6, hd]
 exact putW_of h7⟩
end
end Go.Proofs.Ytcmoifejjodgcaa.T

namespace Go.Proofs.Ytcmoifejjodgcaa.T
open Go
set_option linter.unusedVariables false
set_option linter.unusedSimpArgs false
def Fun3 (P : Program) (f : FuncId) (row : List D) (pts : List TS) (R : Res → Prop) : Prop := Fun2 P f ⟨false, row⟩ pts fun row' r => row' = row.map (fun _ => .hole) ∧ R r
theorem Fun3.w {P : Program} {f : FuncId} {fn : Func} {c : Code} {row : List D} {pts : List TS} {R : Res → Prop} (n : Nat) (hf : P.funcs[f]? = some fn)
  (hh : ∀ w g0, mostS pts → argsW 0 pts fun e => ownsW row fun cs => wC P w g0 n c e [(1000000, ⟨false, cs⟩)] (endW P n fn.results.toList R))
  (hb : fn.body = some c := by exact rfl) (hn : fn.ntmps = n := by exact rfl) (hl0 : Nat.ble pts.length n = true := by exact rfl) : Fun3 P f row pts R := by
 have hl := Nat.le_of_ble_eq_true hl0
 subst hn
 refine Fun2.ofGive rfl hf hb hl fun w g0 => TC.mostS fun hM => ?_
 obtain ⟨e, h1, h2⟩ := argsW_of (m := 0) (hh w g0 hM)
 rw [args_st hl h1]
 exact (wC_of (ownsW_of h2)).mono fun ex st hl => endW_of hl
section
variable {P : Program} {w0 : World} {g0 : Gh} {n : Nat} {e : List En} {rs : Rs} {K : Kn} {f : FuncId} {ts pts : List TS} {caps : List TV} {d : Nat}
end
end Go.Proofs.Ytcmoifejjodgcaa.T

namespace Go.Proofs.Ytcmoifejjodgcaa.T
open Go
set_option linter.unusedVariables false
set_option linter.unusedSimpArgs false
class Q (p : Prop) : Prop where
 h : p
class Cond (b : Bool) (p q : outParam Prop) : Prop where
 yes : b = true → p
 no : b = false → q
instance (priority := low) (b : Bool) : Cond b (b = true) (b = false) := ⟨id, id⟩
instance (p : Prop) {_ : Decidable p} : Cond (decide p) p (¬ p) := ⟨of_decide_eq_true, of_decide_eq_false⟩
instance (a b : Int) : Cond (a == b) (a = b) (¬ a = b) := ⟨fun h => by simpa using h, fun h => by simpa using h⟩
instance (a b : Int) : Cond (a != b) (¬ a = b) (a = b) := ⟨fun h => by simpa using h, fun h => by simpa using h⟩
instance (b : Bool) (p q : Prop) [h : Cond b p q] : Cond (!b) q p := ⟨fun e => h.no (by simpa using e), fun e => h.yes (by simpa using e)⟩
instance (a b : Bool) (p q p' q' : Prop) [h : Cond a p q] [h' : Cond b p' q'] : Cond (a && b) (p ∧ p') (q ∨ q') :=
 ⟨fun e => by rw [Bool.and_eq_true] at e; exact ⟨h.yes e.1, h'.yes e.2⟩, fun e => by rw [Bool.and_eq_false_iff] at e; exact e.imp h.no h'.no⟩
instance (a b : Bool) (p q p' q' : Prop) [h : Cond a p q] [h' : Cond b p' q'] : Cond (a || b) (p ∨ p') (q ∧ q') :=
 ⟨fun e => by rw [Bool.or_eq_true] at e; exact e.imp h.yes h'.yes, fun e => by rw [Bool.or_eq_false_iff] at e; exact ⟨h.no e.1, h'.no e.2⟩⟩
class CondVs (us vs : List Value) (p : outParam Prop) : Prop where
 h : eqVs us vs = true ↔ p
instance (k k' : IntKind) (a b : Int) : CondVs [.int k a] [.int k' b] (a = b) := ⟨by simp [eqVs, eqV]⟩
instance (a b : Bool) : CondVs [.bool a] [.bool b] (a = b) := ⟨by simp [eqVs, eqV]⟩
instance (k k' : IntKind) (a b : Int) (x y : Value) (us vs : List Value) (p : Prop) [h : CondVs (x :: us) (y :: vs) p] : CondVs (.int k a :: x :: us) (.int k' b :: y :: vs) (a = b ∧ p) := ⟨by rw [← h.h]; show (_ && _) = true ↔ _; rw [Bool.and_eq_true]; simp [eqV]⟩
instance (a b : Bool) (x y : Value) (us vs : List Value) (p : Prop) [h : CondVs (x :: us) (y :: vs) p] : CondVs (.bool a :: x :: us) (.bool b :: y :: vs) (a = b ∧ p) := ⟨by rw [← h.h]; show (_ && _) = true ↔ _; rw [Bool.and_eq_true]; simp [eqV]⟩
instance (us vs : List Value) (p : Prop) [h : CondVs us vs p] : Cond (eqVs us vs) p (¬ p) := ⟨h.h.1, fun e e' => by rw [h.h.2 e'] at e; cases e⟩
theorem cnd {b : Bool} {p q A B : Prop} [h : Cond b p q] (h1 : p → A) (h2 : q → B) : @Bool.rec (fun _ => Prop) B A b := spl (fun e => h1 (h.yes e)) (fun e => h2 (h.no e))
class ElS {α : Type} (xs : List α) (S : outParam (α → Prop)) : Prop where
 h : ∀ y ∈ xs, S y
instance (priority := low) {α : Type} (xs : List α) : ElS xs (fun _ => True) := ⟨fun _ _ => trivial⟩
class ElB {α : Type} (S : α → Prop) (B : outParam (α → Prop)) : Prop where
 h : ∀ y, S y → B y
instance (priority := low) {α : Type} (S : α → Prop) : ElB S (fun _ => True) := ⟨fun _ _ => trivial⟩
theorem ixkq {α : Type} {f : α → D} {xs : List α} {S B : α → Prop} [hS : ElS xs S] [hB : ElB S B] {m : Nat} {k : D → Prop} (c : ∀ y, xs[m]? = some y → Q (S y) → B y → k (f y)) (h : m < xs.length := by omega) : IxW (xs.map f) (m : Int) k := ⟨m, f xs[m], rfl, by simp [h], c _ (by simp [h]) ⟨hS.h _ (List.getElem_mem h)⟩ (hB.h _ (hS.h _ (List.getElem_mem h)))⟩
theorem ixiq {α : Type} {f : α → D} {xs : List α} {S B : α → Prop} [hS : ElS xs S] [hB : ElB S B] {i : Int} {k : D → Prop} (c : ∀ y, xs[i.toNat]? = some y → Q (S y) → B y → k (f y)) (h : 0 ≤ i ∧ i < xs.length := by omega) : IxW (xs.map f) i k :=
 have h1 : i.toNat < xs.length := by omega
 ⟨i.toNat, f xs[i.toNat], by omega, by simp [h1], c _ (by simp [h1]) ⟨hS.h _ (List.getElem_mem h1)⟩ (hB.h _ (hS.h _ (List.getElem_mem h1)))⟩
class Len1 (l : List D) : Prop where
 h : l.length ≤ 1
instance (d : D) : Len1 [d] := ⟨Nat.le_refl _⟩
instance (l : List D) (k : Nat) (x : D) [h : Len1 l] : Len1 (l.set k x) := ⟨by rw [List.length_set]; exact h.h⟩
instance (l : List D) (x : D) [h1 : Len1 l] [h : WR x] : WL (l.set 0 x) := ⟨fun y hy => by
 match l, h1.h with
 | [], _ => cases hy
 | [d], _ =>
  rw [List.set_cons_zero, List.mem_singleton] at hy
  rw [hy]; exact h⟩
instance (d x : D) [h : WR x] : WL ([d].set 0 x) := ⟨fun y hy => by simp only [List.set_cons_zero, List.mem_singleton] at hy; rw [hy]; exact h⟩
theorem ixoq {α : Type} {f : α → D} {xs : List α} {S B : α → Prop} [hS : ElS xs S] [hB : ElB S B] {m : Nat} {k : D → Prop} (c : ∀ y, xs[m]? = some y → Q (S y) → B y → k (f y)) (h : m < xs.length := by omega) : @Option.rec D (fun _ => Prop) False k ((xs.map f)[m]?) :=
 ixo (y := xs[m]) (by simp [h]) (c _ (by simp [h]) ⟨hS.h _ (List.getElem_mem h)⟩ (hB.h _ (hS.h _ (List.getElem_mem h))))
class LenX {α : Type} (xs : List α) (n : outParam Nat) : Prop where
 h : xs.length ≤ n
instance {α : Type} : LenX ([] : List α) 0 := ⟨Nat.le_refl _⟩
instance {α : Type} (x : α) (l : List α) (n : Nat) [h : LenX l n] : LenX (x :: l) (n + 1) := ⟨Nat.succ_le_succ h.h⟩
instance {α β : Type} (f : α → β) (l : List α) (n : Nat) [h : LenX l n] : LenX (l.map f) n := ⟨by rw [List.length_map]; exact h.h⟩
instance {α : Type} (p : α → Bool) (l : List α) (n : Nat) [h : LenX l n] : LenX (l.filter p) n := ⟨Nat.le_trans (List.length_filter_le ..) h.h⟩
instance {α : Type} (k : Nat) (l : List α) (n : Nat) [h : LenX l n] : LenX (l.take k) n := ⟨Nat.le_trans (by rw [List.length_take]; exact Nat.min_le_right ..) h.h⟩
instance {α : Type} (k : Nat) (l : List α) (n : Nat) [h : LenX l n] : LenX (l.drop k) n := ⟨Nat.le_trans (by rw [List.length_drop]; exact Nat.sub_le ..) h.h⟩
instance {α : Type} (k : Nat) (x : α) (l : List α) (n : Nat) [h : LenX l n] : LenX (l.set k x) n := ⟨by rw [List.length_set]; exact h.h⟩
instance {α : Type} (a b : List α) (n m : Nat) [h : LenX a n] [h' : LenX b m] : LenX (a ++ b) (n + m) := ⟨by rw [List.length_append]; exact Nat.add_le_add h.h h'.h⟩
instance {α : Type} (k : Nat) (x : α) : LenX (List.replicate k x) k := ⟨by rw [List.length_replicate]; exact Nat.le_refl _⟩
theorem appPq {ds ns : List D} {a b : Nat} {k : Prop} [h : PL ns] [ha : LenX ds a] [hb : LenX ns b] (hk : k) (hl : a + b ≤ 134217728 := by first | decide | omega) : AppP ds ns k := appP hk (Nat.le_trans (Nat.add_le_add ha.h hb.h) hl)
theorem appOq {ds ns : List D} {a b : Nat} {k : Prop} [h : WL ns] [ha : LenX ds a] [hb : LenX ns b] (hk : k) (hl : a + b ≤ 134217728 := by first | decide | omega) : AppO ds ns k := appO hk (Nat.le_trans (Nat.add_le_add ha.h hb.h) hl)
def exceptW (xs : List Nat) : Rs → (Rs → Prop) → Prop
 | [], k => k []
 | (a, ⟨m, row⟩) :: l, k => BR (memB a xs) (exceptW xs l k) (exceptW xs l fun l => k ((a, ⟨m, row⟩) :: l))
theorem exceptW_of {xs : List Nat} : ∀ {rs : Rs} {k : Rs → Prop}, exceptW xs rs k → ∃ kr, k kr
 | [], k, h => ⟨_, h⟩
 | (a, ⟨m, row⟩) :: l, k, h => by
  rcases BR_iff.1 h with ⟨_, h⟩ | ⟨_, h⟩
  ·exact exceptW_of (rs := l) h
  ·exact (exceptW_of (rs := l) h).elim fun kr h => ⟨_, h⟩
theorem Can.takeN {st st' st2 : St} {k1 : Nat} {p1 : List (Nat × Nat)} {q1 L : Nat} (h : st.takeN k1 p1 q1 L = some st') (hne : k1 ≠ L) (hL : L < 1000000) (hc : Can st' st2) : Can st st2 := fun hR => by
 obtain ⟨g1, h1⟩ := hR.takeN h hne hL
 exact hc h1
def namesA (e : List En) (rs : Rs) : List Nat → (List En → Rs → Prop) → Prop
 | [], k => k e rs
 | v :: l, k => lookW e v fun t => forceS t fun t => match t with
  | .one (.c (.ref pl)) => (match pl with
   | ⟨b, p, q⟩ => BR (Nat.beq b v) (namesA e rs l k) (BR (Nat.blt v 1000000) (rootW rs b fun m row => BR (!m && Nat.beq row.length 1 && p.isEmpty && Nat.beq q 0)
    (normW v rs (nameR b v rs) fun rs => namesA (.app (nameS b v) :: e) rs l k) (takeW b p q v e rs fun e rs => namesA e rs l k)) False))
  | _ => namesA e rs l k
theorem namesA_of {n : Nat} : ∀ {l : List Nat} {e : List En} {rs : Rs} {k : List En → Rs → Prop}, namesA e rs l k → ∃ e' rs', k e' rs' ∧ ∀ st2, Can (stOf n e' rs') st2 → Can (stOf n e rs) st2
 | [], e, rs, k, h => ⟨e, rs, h, fun _ h => h⟩
 | v :: l, e, rs, k, h => by
  have h := forceS_iff.1 (lookW_of h)
  generalize look e v = t at h
  split at h
  ·rename_i pl
   obtain ⟨b, p, q⟩ := pl
   simp only at h
   rcases BR_iff.1 h with ⟨_, h⟩ | ⟨_, h⟩
   ·exact namesA_of h
   ·obtain ⟨h1, h2⟩ := BR_yes h
    obtain ⟨m, row, h3, h4⟩ := rootW_of (n := n) (e := e) h2
    rcases BR_iff.1 h4 with ⟨_, h5⟩ | ⟨_, h5⟩
    ·obtain ⟨e', rs', h6, h7⟩ := namesA_of (n := n) (l := l) (normW_of h5)
     exact ⟨e', rs', h6, fun st2 hc => Can.name b v name_eq (h7 st2 hc) (Nat.le_of_ble_eq_true h1)⟩
    ·obtain ⟨h6, st', h7, e1, rs1, h8, h9⟩ := takeW_of (n := n) h5
     obtain ⟨e', rs', h10, h11⟩ := namesA_of (n := n) (l := l) h9
     exact ⟨e', rs', h10, fun st2 hc => Can.takeN h7 h6 (Nat.le_of_ble_eq_true h1) (h8 ▸ h11 st2 hc)⟩
  ·exact namesA_of h
def HeadA (e : List En) (rs : Rs) (vs : List Nat) (E : List En) (R : Rs) : Prop := namesA e rs vs fun e rs => slotsW e E (rootsW rs R)
theorem HeadA.can {n : Nat} {e E : List En} {rs R : Rs} {vs : List Nat} (h : HeadA e rs vs E R) : Can (stOf n e rs) (stOf n E R) := by
 obtain ⟨e', rs', h1, h2⟩ := namesA_of (n := n) h
 obtain ⟨h3, h4⟩ := slotsW_of h1
 exact h2 _ (head_can h3 (rootsW_of h4))
inductive NextA {α : Type} (inv : α → Prop) (v : α → Nat) (vs : List Nat) (x : α) (E : α → List En) (R : α → Rs) (e : List En) (rs : Rs) : Prop
 | mk (y : α) (h1 : v y < v x) (h2 : inv y) (h3 : HeadA e rs vs (E y) (R y))
theorem loopA {P : Program} {w0 : World} {g0 : Gh} {n : Nat} {c : Code} {e : List En} {rs : Rs} {K : Kx} {α : Type} (js vs xs : List Nat) (mods : α → List En) (rts : α → Rs) (inv : α → Prop) (v : α → Nat) (x0 : α) (h0 : inv x0)
  (h : namesA e rs vs fun e rs => keepE n e js fun ke => exceptW xs rs fun kr => slotsW e (mods x0 ++ ke) (rootsW rs (rts x0 ++ kr)) ∧
   ∀ x, inv x → appW (mods x) ke fun E => appW (rts x) kr fun R => ∀ N : Kx, (∀ ex e' rs', RoundW (NextA inv v vs x (fun y => mods y ++ ke) (fun y => rts y ++ kr)) K ex e' rs' → N ex e' rs') → wC P w0 g0 n c E R N) : LoopW P w0 g0 n c e rs K := ⟨by
 obtain ⟨e2, rs2, h, hcan⟩ := namesA_of (n := n) h
 obtain ⟨ke, h⟩ := keepE_of h
 obtain ⟨kr, h1, h2⟩ := exceptW_of h
 obtain ⟨h3, h4⟩ := slotsW_of h1
 refine TC.loop (fun μ st => ∃ x, inv x ∧ μ = v x ∧ Can st (stOf n (mods x ++ ke) (rts x ++ kr))) (v x0) ⟨x0, h0, rfl, hcan _ (head_can h3 (rootsW_of h4))⟩ fun μ st ⟨x, hi, hv, hc⟩ => ?_
 refine TC.can hc ?_
 refine (wC_of (appW_of (appW_of (h2 x hi)) _ fun _ _ _ h => h)).mono fun ex st ⟨e', rs', hs, hk⟩ => ?_
 subst hs
 cases ex with
 | normal =>
  obtain ⟨y, h3, h4, h5⟩ := hk
  exact ⟨v y, by rw [hv]; exact h3, y, h4, rfl, h5.can⟩
 | _ => exact .mk hk⟩
def rangeF (p : Nat → Bool) (n : Nat) : List Int := ((List.range n).filter p).map fun (k : Nat) => (k : Int)
theorem rangeF_zero {p : Nat → Bool} : rangeF p 0 = [] := rfl
theorem rangeF_succ {p : Nat → Bool} {n : Nat} : rangeF p (n + 1) = rangeF p n ++ if p n = true then [(n : Int)] else [] := by
 simp only [rangeF, List.range_succ, List.filter_append, List.map_append, List.filter_cons, List.filter_nil]
 split <;> rfl
theorem rangeF_len {p : Nat → Bool} {n : Nat} : (rangeF p n).length ≤ n := by
 rw [rangeF, List.length_map]
 exact Nat.le_trans (List.length_filter_le ..) (by simp)
theorem all_dec {α : Type} {p : α → Bool} {xs : List α} {k : Nat} (h : (xs.take k).all p = true) : (∀ x, xs[k]? = some x → p x = false → xs.all p = false) ∧ (xs.length ≤ k → xs.all p = true) :=
 ⟨fun x hx hp => by rw [List.all_eq_false]; exact ⟨x, List.mem_of_getElem? hx, by simp [hp]⟩, fun hk => by rwa [List.take_of_length_le hk] at h⟩
theorem all_next {α : Type} {p : α → Bool} {xs : List α} {k : Nat} {x : α} (h : (xs.take k).all p = true) (hx : xs[k]? = some x) (hp : p x = true) : (xs.take (k + 1)).all p = true := by
 rw [List.take_add_one, hx, List.all_append, h]
 simp [hp]
theorem cvu {a : Int} {k : Int → Prop} (c : k a) (h : 0 ≤ a := by omega) (h2 : a < 18446744073709551616 := by omega) : ConvW .u64 a k := ⟨a, by rw [IntKind.wrap_u64]; omega, c⟩
theorem hda {e E : List En} {k : Prop} (h : slotsW e E k := by repeat' first | exact rfl | refine And.intro ?_ ?_ | exact True.intro | (refine eqS ?_; simp [rangeF_zero]; done)) : slotsW e E k := h
theorem nxa {α : Type} {inv : α → Prop} {v : α → Nat} {vs : List Nat} {x : α} {E : α → List En} {R : α → Rs} {e : List En} {rs : Rs} (y : α) (h2 : inv y) (h3 : HeadA e rs vs (E y) (R y) := by repeat' first | exact rfl | refine And.intro ?_ ?_ | exact True.intro | (refine eqS ?_; simp; done) | (refine eqS ?_; simp [List.take_add_one, List.set_set, rangeF_succ, *]; done) | (refine eqS ?_; exact congrArg (fun z : Int => (I z : TS)) (by omega))) (h1 : v y < v x := by first | omega | (dsimp only; omega)) : NextA inv v vs x E R e rs := ⟨y, h1, h2, h3⟩
end Go.Proofs.Ytcmoifejjodgcaa.T

