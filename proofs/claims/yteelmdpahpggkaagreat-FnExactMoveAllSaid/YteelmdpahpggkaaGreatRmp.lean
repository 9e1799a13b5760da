
import Derived.Test.YteelmdpahpggkaaGreatRjp
import Derived.Test.YteelmdpahpggkaaGreatTzop
namespace Go.Proofs.YteelmdpahpggkaaGreat.T
open Go
set_option linter.unusedVariables false
set_option linter.unusedSimpArgs false
def unownW : List C → (List D → Prop) → Prop
 | [], k => k []
 | c :: l, k => match c with
  | .own d => unownW l fun l => k (d :: l)
  | _ => False
theorem unownW_of : ∀ {l : List C} {k : List D → Prop}, unownW l k → ∃ ds, l = ds.map C.own ∧ k ds
 | [], k, h => ⟨[], rfl, h⟩
 | c :: l, k, h => by
  unfold unownW at h
  split at h
  ·obtain ⟨ds, h1, h2⟩ := unownW_of (l := l) h
   exact ⟨_ :: ds, by simp [h1], h2⟩
  ·exact h.elim
def noneOf (k : Nat) : List (Nat × Nat) → Bool
 | [] => true
 | (a, _) :: l => !(Nat.beq a k) && noneOf k l
theorem noneOf_all {k : Nat} : ∀ {l : List (Nat × Nat)}, noneOf k l = true → (l.all fun s => s.1 != k) = true
 | [], _ => rfl
 | (a, q) :: l, h => by
  simp only [noneOf, Bool.and_eq_true, Bool.not_eq_true'] at h
  have hne : a ≠ k := fun e => by subst e; simp at h
  simp only [List.all_cons, Bool.and_eq_true, bne_iff_ne, ne_eq]
  exact ⟨hne, noneOf_all h.2⟩
def endR2 (P : Program) (n : Nat) (rv : List ResultVar) (hk : Nat) (hm : Bool) (hl : Nat) (R : List D → Res → Prop) (e : List En) (rs : Rs) : Prop :=
 ressW P n e rs rv fun tvs => BR (Nat.ble rv.length 4 && nodupB (tvs.flatMap refV) && noneOf hk (tvs.flatMap refV)) (contsW rs (tvs.flatMap refV) fun row => rootW rs hk fun m row' => BR (m == hm) (unownW row' fun ds => BR (Nat.beq ds.length hl)
  (R ds ⟨row, fun k => resT (tvs.map (gathV (tvs.flatMap refV) k))⟩) False) False) False
def endW2 (P : Program) (n : Nat) (rv : List ResultVar) (hk : Nat) (hm : Bool) (hl : Nat) (R : List D → Res → Prop) : Kx := fun ex e rs => match ex with
 | .normal => endR2 P n rv hk hm hl R e rs
 | .ret => endR2 P n rv hk hm hl R e rs
 | _ => False
theorem endW2_of {P : Program} {n : Nat} {fn : Func} {h : Hand} {R : List D → Res → Prop} {ex : Exit} {st : St} (hh : Lf n (endW2 P n fn.results.toList h.k h.mem h.row.length R) ex st) : Ends2 P fn h R ex st := by
 obtain ⟨e, rs, rfl, hh⟩ := hh
 have key : endR2 P n fn.results.toList h.k h.mem h.row.length R e rs → ∀ ex, (ex = .normal ∨ ex = .ret) → Ends2 P fn h R ex (stOf n e rs) := fun hh ex hex => by
  obtain ⟨tvs, h1, h2⟩ := ressW_of hh
  obtain ⟨h3, h4⟩ := BR_yes h2
  simp only [Bool.and_eq_true] at h3
  obtain ⟨row, h5, h6⟩ := contsW_of (n := n) (e := e) h4
  obtain ⟨m, row', h7, h8⟩ := rootW_of (n := n) (e := e) h6
  obtain ⟨h9, h10⟩ := BR_yes h8
  have h9 : m = h.mem := by simpa using h9
  obtain ⟨ds, h11, h12⟩ := unownW_of h10
  obtain ⟨h13, h14⟩ := BR_yes h12
  subst h9
  subst h11
  exact ⟨hex, fn.results.toList, tvs, row, ds, rfl, Nat.le_of_ble_eq_true h3.1.1, h1, nodupB_of h3.1.2, h5, h7, Nat.eq_of_beq_eq_true h13, noneOf_all h3.2, h14⟩
 unfold endW2 at hh
 split at hh
 ·exact key hh _ (.inl rfl)
 ·exact key hh _ (.inr rfl)
 ·exact hh.elim
def handR (h : Hand) (k : Nat → Bool → Nat → Rs → Prop) : Prop := match h with
 | ⟨m, row⟩ => BR m (ownsW row fun cs => k 1000001 true row.length [(1000001, ⟨true, cs⟩)]) (ownsW row fun cs => k 1000000 false row.length [(1000000, ⟨false, cs⟩)])
theorem handR_of {h : Hand} {k : Nat → Bool → Nat → Rs → Prop} (hh : handR h k) : k h.k h.mem h.row.length [(h.k, ⟨h.mem, h.row.map C.own⟩)] := by
 obtain ⟨m, row⟩ := h
 rcases BR_iff.1 hh with ⟨rfl, h1⟩ | ⟨rfl, h1⟩
 ·exact ownsW_of h1
 ·exact ownsW_of h1
theorem Fun2.w {P : Program} {f : FuncId} {fn : Func} {c : Code} {h : Hand} {pts : List TS} {R : List D → Res → Prop} (n : Nat) (hf : P.funcs[f]? = some fn)
  (hh : ∀ w g0, mostS pts → argsW 0 pts fun e => handR h fun hk hm hl rs => wC P w g0 n c e rs (endW2 P n fn.results.toList hk hm hl R))
  (hb : fn.body = some c := by exact rfl) (hn : fn.ntmps = n := by exact rfl) (hl0 : Nat.ble pts.length n = true := by exact rfl) : Fun2 P f h pts R := by
 have hl := Nat.le_of_ble_eq_true hl0
 subst hn
 refine Fun2.of hf hb hl fun w g0 => TC.mostS fun hM => ?_
 obtain ⟨e, h1, h2⟩ := argsW_of (m := 0) (hh w g0 hM)
 rw [args_st hl h1]
 exact (wC_of (handR_of h2)).mono fun ex st hl => endW2_of hl
def endWK (P : Program) (n : Nat) (rv : List ResultVar) (hl q0 : Nat) (R : List D → Res → Prop) : Kx := fun ex e rs => rootW rs 1000000 fun _ row => nthW row 0 fun c => match c with
 | .ref ⟨k, p, q⟩ => (match p with
  | [] => BR (Nat.beq k 1000001 && Nat.beq q q0) (endW2 P n rv 1000001 true hl R ex e rs) False
  | _ => False)
 | _ => False
theorem Fun2K.w {P : Program} {f : FuncId} {fn : Func} {c : Code} {row : List D} {q0 : Nat} {pts : List TS} {R : List D → Res → Prop} (n : Nat) (hf : P.funcs[f]? = some fn) {sz : Nat} {ds : List D} (hq : row[q0]? = some (.sl sz ds))
  (hh : ∀ w g0, mostS pts → argsW 0 pts fun e => ownsW row fun cs => wC P w g0 n c e [(1000001, ⟨true, cs⟩), (1000000, ⟨false, [.ref ⟨1000001, [], q0⟩]⟩)] (endWK P n fn.results.toList row.length q0 R))
  (hp : pts.map (TS.kill (fun pl => Nat.beq pl.k pinK) fun _ => false) = pts := by exact rfl)
  (hb : fn.body = some c := by exact rfl) (hn : fn.ntmps = n := by exact rfl) (hl0 : Nat.ble pts.length n = true := by exact rfl) : Fun2K P f row q0 pts R := by
 have hl := Nat.le_of_ble_eq_true hl0
 subst hn
 refine Fun2K.of hf hb hl hp hq fun w g0 => TC.mostS fun hM => ?_
 obtain ⟨e, h1, h2⟩ := argsW_of (m := 0) (hh w g0 hM)
 rw [args_st hl h1]
 refine (wC_of (ownsW_of h2)).mono fun ex st ⟨e, rs, h3, h4⟩ => ?_
 subst h3
 obtain ⟨m, row', h5, h6⟩ := rootW_of (n := fn.ntmps) (e := e) h4
 obtain ⟨c, h7, h8⟩ := nthW_of h6
 split at h8
 ·split at h8
  rotate_left
  ·exact h8.elim
  obtain ⟨h9, h10⟩ := BR_yes h8
  simp only [Bool.and_eq_true, Nat.beq_eq] at h9
  obtain ⟨rfl, rfl⟩ := h9
  exact ⟨endW2_of (h := ⟨true, row⟩) ⟨e, rs, rfl, h10⟩, _, h5, h7⟩
 ·exact h8.elim
section
variable {P : Program} {w0 : World} {g0 : Gh} {st : St}
theorem OpT.call2 {o : Oper} {st' : St} {Q : St → Prop} {f : FuncId} {cx : Operand} {args : List Operand} {tys : Array TypeId} {fn : Func}
  (ho : o.op = .call { callee := .value cx, args := args.toArray, argTypes := tys }) (hcx : T.opd 0 st cx = some (.fn f [])) (hf : P.funcs[f]? = some fn) (hb : fn.body.isNone = false)
  (hn : (fn.name == "runtime.NumGoroutine") = false) {ts ts' : List TS} (hx : opds st args = some ts) {h : Hand} {rows : List D} {t : TS} {x : Value} (hc : Fun2 P f h ts' (RP2 rows t)) {srcs : List (Nat × Nat)} {bx : Option Nat}
  (hC : CanHand st h srcs bx 999999) (hs : GivesAll st srcs bx h.k ts ts') (hp : freeS t = some x)
  (hpt : (st.handed srcs h.mem rows 999999).put o.dst t = st') (hq : Q st') : OpT P w0 g0 o st Q := fun a w g hR K Q' hK => by
 have h1 := hR.opds hx
 have h2 := hs.get
 have hcall := hc w (g.hand w.heap.size srcs bx h.k) (args.map a.eval).toArray 999999 (by decide) (hR.handed hC) (by simp [h1.1, h2.1]) (fun i t' u hi hu => by
  obtain ⟨t, h3, h4⟩ := h2.2 i t' hi
  exact hR.giveS hC h4 (h1.2 i t u h3 (by simpa using hu)))
 unfold Oper.wp
 rw [run_enter hR ho hcx hf hb hn w]
 refine hcall.mono fun e w' ⟨v, row', r, g', he, ⟨hr1, hr2⟩, hG⟩ => ?_
 subst he
 subst hr1
 have h5 := hG.val
 rw [hr2] at h5
 have h6 := (freeS_inv hp).1 h5
 subst h6
 obtain ⟨g2, hR2, _⟩ := hR.called2 hC hG
 exact hK _ _ _ _ hq (hpt ▸ hR2.put ((freeS_inv hp).2 rfl) o.dst)
end
section
variable {P : Program} {w0 : World} {g0 : Gh} {st : St}
theorem OpT.call2K {o : Oper} {st' : St} {Q : St → Prop} {f : FuncId} {cx : Operand} {args : List Operand} {tys : Array TypeId} {fn : Func}
  (ho : o.op = .call { callee := .value cx, args := args.toArray, argTypes := tys }) (hcx : T.opd 0 st cx = some (.fn f [])) (hf : P.funcs[f]? = some fn) (hb : fn.body.isNone = false)
  (hn : (fn.name == "runtime.NumGoroutine") = false) {ts ts' : List TS} (hx : opds st args = some ts) {row rows : List D} {q0 : Nat} {t : TS} {x : Value} (hc : Fun2K P f row q0 ts' (RP2 rows t)) {kb : Nat}
  (hC : CanHand st ⟨true, row⟩ (boxSrc kb row.length) (some kb) 999999) (hs : GivesAll st (boxSrc kb row.length) (some kb) 1000001 ts ts') (hp : freeS t = some x)
  {s i q' sz : Nat} {ds ds' : List D} (hq0 : row[q0]? = some (.sl sz ds)) (hq1 : rows[q0]? = some (.sl sz ds')) (hi : i < ds.length) (hi' : i < ds'.length) (hsl : st.tmps[s]? = some (.one (.ptr ⟨kb, [(q0, i)], q'⟩)))
  (hpt : ((st.handed (boxSrc kb row.length) true rows 999999).put (some s) (.one (.ptr ⟨kb, [(q0, i)], q'⟩))).put o.dst t = st') (hq : Q st') : OpT P w0 g0 o st Q := fun a w g hR K Q' hK => by
 have h1 := hR.opds hx
 have h2 := hs.get
 have hcall := hc w (g.hand w.heap.size (boxSrc kb row.length) (some kb) 1000001) (args.map a.eval).toArray 999999 (by decide) (hR.handed hC) (by simp [h1.1, h2.1]) (fun i t' u hi hu => by
  obtain ⟨t, h3, h4⟩ := h2.2 i t' hi
  exact hR.giveS hC h4 (h1.2 i t u h3 (by simpa using hu)))
 unfold Oper.wp
 rw [run_enter hR ho hcx hf hb hn w]
 refine hcall.mono fun e w' ⟨v, row', r, g', he, ⟨hr1, hr2⟩, hG, hpin⟩ => ?_
 subst he
 subst hr1
 have h5 := hG.val
 rw [hr2] at h5
 have h6 := (freeS_inv hp).1 h5
 subst h6
 obtain ⟨g2, hR2, _, _, hcv⟩ := hR.called2 hC hG
 obtain ⟨kb', r', e1, e2, e3, e4, e5, e6⟩ := hC.boxSome rfl
 simp only [Option.some.injEq] at e1
 subst e1
 have hq0l : q0 < row.length := (List.getElem?_eq_some_iff.1 hq0).1
 have hidx := boxSrc_get (kb := kb) hq0l
 obtain ⟨hv, hO2⟩ := hcv kb q0 q0 e6 hidx
 have hO2 := hO2 _ hq1
 have hO1 : Ow w g kb [] q0 (.sl sz ds) := by
  obtain ⟨s', h1, h2⟩ := (contents_get hC.cont).2 q0 _ hq0
  have h3 := idxOf_some hidx
  rw [h3] at h1
  simp only [Option.some.injEq] at h1
  subst h1
  exact (hR.cellAt h2).1 _ rfl
 have hcv2 : g2.cv kb [] q0 = g.cv kb [] q0 := by
  rw [hv, show g'.cv (Hand.k ⟨true, row⟩) [] q0 = g'.cv pinB [] q0 from rfl, hpin]
  have h3 := idxOf_some hidx
  simp [Gh.hand, pinB, h3]
 have had : g2.ad kb [(q0, i)] = g.ad kb [(q0, i)] := by
  cases hO1 with
  | nil => simp at hi
  | sl _ _ _ _ b off n c cs e hc hn hm hnc hcm ho hb hfit hrow had =>
   cases hO2 with
   | nil => simp at hi'
   | sl _ _ _ _ b2 off2 n2 c2 cs2 e2 hc2 hn2 hm2 hnc2 hcm2 ho2 hb2 hfit2 hrow2 had2 =>
    have hc2 : g2.cv kb [] q0 = _ := hc2
    have hc : g.cv kb [] q0 = _ := hc
    rw [hcv2, hc] at hc2
    injection hc2 with e1 e2 e3
    injection e1 with e1
    injection e1 with e4 e5
    subst e4 e5
    have g1 := had i (by omega)
    have g3 := had2 i (by omega)
    simp only [List.nil_append] at g1 g3
    rw [g1, g3]
 have hold := hR.tm s _ hsl
 have hptr : RepS w' g2 (.one (.ptr ⟨kb, [(q0, i)], q'⟩)) (a.tmps.getD s undef) := by
  generalize a.tmps.getD s undef = u at hold
  cases hold with
  | one _ _ hu => cases hu with
   | ptr _ =>
    have := RepT.ptr (w := w') (g := g2) ⟨kb, [(q0, i)], q'⟩
    simp only [had] at this
    exact .one _ _ this
 have hR3 : Rel w0 g0 ((st.handed (boxSrc kb row.length) true row' 999999).put (some s) (.one (.ptr ⟨kb, [(q0, i)], q'⟩))) a w' g2 := by
  refine ⟨fun j tv hj => ?_, by simpa [St.put] using hR2.sz, hR2.df, ⟨hR2.rt.cell, hR2.rt.mem⟩, hR2.ks⟩
  simp only [St.put, List.getElem?_set] at hj
  by_cases e : s = j
  ·subst e
   rw [if_pos rfl] at hj
   split at hj
   ·simp only [Option.some.injEq] at hj
    subst hj
    exact hptr
   ·cases hj
  ·rw [if_neg e] at hj
   exact hR2.tm j tv hj
 exact hK _ _ _ _ hq (hpt ▸ hR3.put ((freeS_inv hp).2 rfl) o.dst)
end
section
variable {P : Program} {w0 : World} {g0 : Gh} {st : St} {k1 q0 i0 j sz sz2 : Nat} {ds ds2 : List D} {e : D} {rt : Rt}
theorem OpT.callN {o : Oper} {st1 st' : St} {Q : St → Prop} {f : FuncId} {cx : Operand} {args : List Operand} {tys : Array TypeId} {fn : Func}
  (ho : o.op = .call { callee := .value cx, args := args.toArray, argTypes := tys }) (hcx : T.opd 0 st cx = some (.fn f [])) (hf : P.funcs[f]? = some fn) (hb : fn.body.isNone = false)
  (hn : (fn.name == "runtime.NumGoroutine") = false) {ts ts' : List TS} (hx : opds st args = some ts) {sz3 : Nat} {ds3 : List D} {t : TS} {x : Value} (hc : Fun2 P f ⟨false, [.sl sz2 ds2]⟩ ts' (RP2 [.sl sz3 ds3] t))
  (hk : st.root k1 = some rt) (hq : rt.row[q0]? = some (.own (.sl sz ds))) (he : ds[i0]? = some e) (hj : e.row[j]? = some (.sl sz2 ds2))
  (hs : GiveNs k1 q0 i0 j ts ts') (hp : freeS t = some x) (hst : st.nest k1 q0 i0 j (.sl sz3 ds3) = some st1)
  (hpt : st1.put o.dst t = st') (hqq : Q st') : OpT P w0 g0 o st Q := fun a w g hR K Q' hK => by
 have h1 := hR.opds hx
 have h2 := hs.get
 have hO := hR.nestAt hk hq he hj
 have hcall := hc w (g.handN w.heap.size k1 q0 i0 j) (args.map a.eval).toArray 999999 (by decide) (hR.handedN hO) (by simp [h1.1, h2.1]) (fun i t' u hi hu => by
  obtain ⟨t, h3, h4⟩ := h2.2 i t' hi
  exact hR.giveN h4 (h1.2 i t u h3 (by simpa using hu)))
 unfold Oper.wp
 rw [run_enter hR ho hcx hf hb hn w]
 refine hcall.mono fun e w' ⟨v, row', r, g', he', ⟨hr1, hr2⟩, hG⟩ => ?_
 subst he'
 subst hr1
 have h5 := hG.val
 rw [hr2] at h5
 have h6 := (freeS_inv hp).1 h5
 subst h6
 obtain ⟨g2, hR2⟩ := hR.backN hk hq he hj hG hst
 exact hK _ _ _ _ hqq (hpt ▸ hR2.put ((freeS_inv hp).2 rfl) o.dst)
end
def handedR (rs : Rs) (srcs : List (Nat × Nat)) (m : Bool) (rows : List D) : Rs := ((⟨[], rs⟩ : St).handed srcs m rows 999999).roots
def handedW (srcs : List (Nat × Nat)) (m : Bool) (rows : List D) (e : List En) (rs : Rs) (K : Kn) : Prop := normW 0 rs (handedR rs srcs m rows) fun rs => K (.app (TS.kill (killR srcs m 999999) (killP srcs 999999)) :: e) rs
theorem handedW_of {n : Nat} {srcs : List (Nat × Nat)} {m : Bool} {rows : List D} {e : List En} {rs : Rs} {K : Kn} (h : handedW srcs m rows e rs K) : Lg n K ((stOf n e rs).handed srcs m rows 999999) := by
 have h1 : (stOf n e rs).handed srcs m rows 999999 = stOf n (.app (TS.kill (killR srcs m 999999) (killP srcs 999999)) :: e) (handedR rs srcs m rows) := stOf_app
 rw [h1]
 exact .mk (normW_of h)
section
variable {P : Program} {w0 : World} {g0 : Gh} {n : Nat} {e : List En} {rs : Rs} {K : Kn} {f : FuncId} {ts pts : List TS} {dst : Option Nat}
theorem callH (srcs : List (Nat × Nat)) {row rows : List D} {t : TS} {x : Value} (hc : Fun2 P f ⟨false, row⟩ pts (RP2 rows t)) (hk : handedW srcs false rows e rs fun e rs => putW dst t e rs K)
  (hC : CanHand (stOf n e rs) ⟨false, row⟩ srcs none 999999 := by exact .list rfl)
  (hs : GivesAll (stOf n e rs) srcs none 1000000 ts pts := by (repeat first | exact .nil | refine GivesAll.cons (.ptrD rfl) ?_ | refine GivesAll.cons (.c (.ro _)) ?_ | refine GivesAll.cons (.c (.hand rfl)) ?_ | refine GivesAll.cons (.c (.snap rfl WD.w rfl)) ?_ | refine GivesAll.cons (.cptr _) ?_ | refine GivesAll.cons (.fn _) ?_ | refine GivesAll.cons (.fnC _ _ rfl) ?_ | refine GivesAll.cons (.agg (by repeat first | exact .nil | refine GiveCs.cons (.ro _) ?_ | refine GiveCs.cons (.hand rfl) ?_ | refine GiveCs.cons (.snap rfl WD.w rfl) ?_)) ?_); done)
  (hp : freeS t = some x := by exact rfl) (hf : Callable P f := by exact .mk rfl rfl rfl) : CallW false P w0 g0 n e rs f ts dst K := ⟨fun o cx args tys ho hcx hd hx => by
 obtain ⟨fn, h1, h2, h3⟩ := hf
 obtain ⟨e1, rs1, h4, h5⟩ := handedW_of (n := n) hk
 refine OpT.call2 (h := ⟨false, row⟩) ho hcx h1 h2 h3 hx hc hC hs hp rfl ?_
 rw [h4, hd]
 exact putW_of h5⟩
theorem callX (kb : Nat) {row rows : List D} {t : TS} {x : Value} (hc : Fun2 P f ⟨true, row⟩ pts (RP2 rows t)) (hk : handedW (boxSrc kb row.length) true rows e rs fun e rs => putW dst t e rs K)
  (hC : CanHand (stOf n e rs) ⟨true, row⟩ (boxSrc kb row.length) (some kb) 999999 := by exact .bx rfl)
  (hs : GivesAll (stOf n e rs) (boxSrc kb row.length) (some kb) 1000001 ts pts := by (repeat first | exact .nil | refine GivesAll.cons (.ptr rfl) ?_ | refine GivesAll.cons (.ptrD rfl) ?_ | refine GivesAll.cons (.c (.ro _)) ?_ | refine GivesAll.cons (.c (.snap rfl WD.w rfl)) ?_ | refine GivesAll.cons (.cptr _) ?_ | refine GivesAll.cons (.fn _) ?_ | refine GivesAll.cons (.fnC _ _ rfl) ?_ | refine GivesAll.cons (.agg (by repeat first | exact .nil | refine GiveCs.cons (.ro _) ?_ | refine GiveCs.cons (.snap rfl WD.w rfl) ?_)) ?_); done)
  (hp : freeS t = some x := by exact rfl) (hf : Callable P f := by exact .mk rfl rfl rfl) : CallW false P w0 g0 n e rs f ts dst K := ⟨fun o cx args tys ho hcx hd hx => by
 obtain ⟨fn, h1, h2, h3⟩ := hf
 obtain ⟨e1, rs1, h4, h5⟩ := handedW_of (n := n) hk
 refine OpT.call2 (h := ⟨true, row⟩) ho hcx h1 h2 h3 hx hc hC hs hp rfl ?_
 rw [h4, hd]
 exact putW_of h5⟩
theorem callK (kb q0 s i q' : Nat) {row rows : List D} {t : TS} {x : Value} {sz : Nat} {ds ds' : List D} (hc : Fun2K P f row q0 pts (RP2 rows t)) (hq0 : row[q0]? = some (.sl sz ds)) (hq1 : rows[q0]? = some (.sl sz ds')) (hi : i < ds.length) (hi' : i < ds'.length)
  (hk : handedW (boxSrc kb row.length) true rows e rs fun e rs => putW (some s) (.one (.ptr ⟨kb, [(q0, i)], q'⟩)) e rs fun e rs => putW dst t e rs K)
  (hsl : (stOf n e rs).tmps[s]? = some (.one (.ptr ⟨kb, [(q0, i)], q'⟩)) := by exact rfl)
  (hC : CanHand (stOf n e rs) ⟨true, row⟩ (boxSrc kb row.length) (some kb) 999999 := by exact .bx rfl)
  (hs : GivesAll (stOf n e rs) (boxSrc kb row.length) (some kb) 1000001 ts pts := by (repeat first | exact .nil | refine GivesAll.cons (.ptr rfl) ?_ | refine GivesAll.cons (.ptrD rfl) ?_ | refine GivesAll.cons (.c (.ro _)) ?_ | refine GivesAll.cons (.c (.snap rfl WD.w rfl)) ?_ | refine GivesAll.cons (.cptr _) ?_ | refine GivesAll.cons (.fn _) ?_ | refine GivesAll.cons (.fnC _ _ rfl) ?_ | refine GivesAll.cons (.agg (by repeat first | exact .nil | refine GiveCs.cons (.ro _) ?_ | refine GiveCs.cons (.snap rfl WD.w rfl) ?_)) ?_); done)
  (hp : freeS t = some x := by exact rfl) (hf : Callable P f := by exact .mk rfl rfl rfl) : CallW false P w0 g0 n e rs f ts dst K := ⟨fun o cx args tys ho hcx hd hx => by
 obtain ⟨fn, h1, h2, h3⟩ := hf
 obtain ⟨e1, rs1, h4, h5⟩ := handedW_of (n := n) hk
 obtain ⟨e2, rs2, h6, h7⟩ := putW_of (n := n) h5
 refine OpT.call2K ho hcx h1 h2 h3 hx hc hC hs hp hq0 hq1 hi hi' hsl rfl ?_
 rw [h4, h6, hd]
 exact putW_of h7⟩
def nestR (rs : Rs) (k1 q0 i0 j : Nat) (m : Bool) (row : List C) : Rs := (((⟨[], rs⟩ : St).kill (hitR k1 [(q0, i0)] j) (hitP k1 [(q0, i0)] j)).setRoot k1 ⟨m, row⟩).roots
def nestW (k1 q0 i0 j sz2 : Nat) (ds2 : List D) (d : D) (e : List En) (rs : Rs) (K : Kn) : Prop := rootW rs k1 fun m row => nthW row q0 fun c => match c with
 | .own d0 => (match d0 with
  | .sl sz ds => IxN ds i0 fun el => (rowW el fun er => nthW er j fun dj => dj = .sl sz2 ds2 ∧ forceCs (row.map (C.kill (hitR k1 [(q0, i0)] j))) fun row => setW er j d fun er' => reRowW el er' fun el' => setW row q0 (.own (.sl sz (ds.set i0 el'))) fun row =>
    normW k1 rs (nestR rs k1 q0 i0 j m row) fun rs => K (.app (killH k1 [(q0, i0)] j) :: e) rs)
  | _ => False)
 | _ => False
theorem callN (k1 q0 i0 j : Nat) {sz2 sz3 : Nat} {ds2 ds3 : List D} {t : TS} {x : Value} (hc : Fun2 P f ⟨false, [.sl sz2 ds2]⟩ pts (RP2 [.sl sz3 ds3] t)) (hk : nestW k1 q0 i0 j sz2 ds2 (.sl sz3 ds3) e rs fun e rs => putW dst t e rs K)
  (hs : GiveNs k1 q0 i0 j ts pts := by (repeat first | exact .nil | refine GiveNs.cons .it ?_ | refine GiveNs.cons (.ro _) ?_); done)
  (hp : freeS t = some x := by exact rfl) (hf : Callable P f := by exact .mk rfl rfl rfl) : CallW false P w0 g0 n e rs f ts dst K := ⟨fun o cx args tys ho hcx hd hx => by
 obtain ⟨fn, h1, h2, h3⟩ := hf
 obtain ⟨m, row, g1, g2⟩ := rootW_of (n := n) (e := e) hk
 obtain ⟨c, g3, g4⟩ := nthW_of g2
 split at g4
 ·split at g4
  ·rename_i sz ds
   obtain ⟨el, g5, g6⟩ := IxN_of g4
   obtain ⟨dj, g7, g8, g9⟩ := nthW_of (rowW_of g6)
   subst g8
   obtain ⟨g10, g11⟩ := setW_of (forceCs_iff.1 g9)
   obtain ⟨g12, g13⟩ := setW_of (reRowW_of g11)
   have g14 := normW_of g13
   have hst : (stOf n e rs).nest k1 q0 i0 j (.sl sz3 ds3) = some (stOf n (.app (killH k1 [(q0, i0)] j) :: e) (nestR rs k1 q0 i0 j m ((row.map (C.kill (hitR k1 [(q0, i0)] j))).set q0 (.own (.sl sz (ds.set i0 (el.reRow (el.row.set j (.sl sz3 ds3))))))))) := by
    simp only [St.nest, g1, g3, g5]
    rw [← stOf_app (rs := rs)]
    rfl
   refine OpT.callN ho hcx h1 h2 h3 hx hc g1 g3 g5 g7 hs hp hst rfl ?_
   rw [hd]
   exact putW_of g14
  ·exact g4.elim
 ·exact g4.elim⟩
end
end Go.Proofs.YteelmdpahpggkaaGreat.T

namespace Go.Proofs.YteelmdpahpggkaaGreat.T
open Go
set_option linter.unusedVariables false
set_option linter.unusedSimpArgs false
def Fun3 (P : Program) (f : FuncId) (row : List D) (pts : List TS) (R : Res → Prop) : Prop := Fun2 P f ⟨false, row⟩ pts fun row' r => row' = row.map (fun _ => .hole) ∧ R r
theorem Fun3.w {P : Program} {f : FuncId} {fn : Func} {c : Code} {row : List D} {pts : List TS} {R : Res → Prop} (n : Nat) (hf : P.funcs[f]? = some fn)
  (hh : ∀ w g0, mostS pts → argsW 0 pts fun e => ownsW row fun cs => wC P w g0 n c e [(1000000, ⟨false, cs⟩)] (endW P n fn.results.toList R))
  (hb : fn.body = some c := by exact rfl) (hn : fn.ntmps = n := by exact rfl) (hl0 : Nat.ble pts.length n = true := by exact rfl) : Fun3 P f row pts R := by
 have hl := Nat.le_of_ble_eq_true hl0
 subst hn
 refine Fun2.ofGive rfl hf hb hl fun w g0 => TC.mostS fun hM => ?_
 obtain ⟨e, h1, h2⟩ := argsW_of (m := 0) (hh w g0 hM)
 rw [args_st hl h1]
 exact (wC_of (ownsW_of h2)).mono fun ex st hl => endW_of hl
def holesW : List D → (List D → Prop) → Prop
 | [], k => k []
 | _ :: l, k => holesW l fun l => k (.hole :: l)
theorem holesW_of : ∀ {l : List D} {k : List D → Prop}, holesW l k → k (l.map fun _ => .hole)
 | [], k, h => h
 | _ :: l, k, h => holesW_of (l := l) h
def givenR (rs : Rs) (srcs : List (Nat × Nat)) (rows : List D) (kd : Nat) (cs : List C) : Rs := (((⟨[], rs⟩ : St).handed srcs false rows kd).setRoot kd ⟨false, cs⟩).roots
def givenW (srcs : List (Nat × Nat)) (rows : List D) (kd : Nat) (cs : List C) (e : List En) (rs : Rs) (K : Kn) : Prop := normW kd rs (givenR rs srcs rows kd cs) fun rs => K (.app (TS.kill (killR srcs false kd) (killP srcs kd)) :: e) rs
theorem givenW_of {n : Nat} {srcs : List (Nat × Nat)} {rows : List D} {kd : Nat} {cs : List C} {e : List En} {rs : Rs} {K : Kn} (h : givenW srcs rows kd cs e rs K) : ∃ e' rs', ((stOf n e rs).handed srcs false rows kd).setRoot kd ⟨false, cs⟩ = stOf n e' rs' ∧ K e' rs' :=
 ⟨_, _, stOf_app, normW_of h⟩
section
variable {P : Program} {w0 : World} {g0 : Gh} {n : Nat} {e : List En} {rs : Rs} {K : Kn} {f : FuncId} {ts pts : List TS} {caps : List TV} {d : Nat}
theorem callM (srcs : List (Nat × Nat)) {row : List D} {l : List RD} (hc : Fun3 P f row pts (RG l))
  (hk : forceDs (cellsD l) fun cd => slOf cd fun cs => holesW row fun rows => givenW srcs rows d cs e rs fun e rs => forceS (resT (valsD d 0 l)) fun t => K (.set d t :: e) rs)
  (hC : CanHand (stOf n e rs) ⟨false, row⟩ srcs none d := by exact .list rfl)
  (hs : GivesAll (stOf n e rs) srcs none 1000000 ts pts := by (repeat first | exact .nil | refine GivesAll.cons (.c (.ro _)) ?_ | refine GivesAll.cons (.c (.hand rfl)) ?_ | refine GivesAll.cons (.c (.deep rfl)) ?_ | refine GivesAll.cons (.c (.snap rfl WD.w rfl)) ?_ | refine GivesAll.cons (.cptr _) ?_ | refine GivesAll.cons (.fn _) ?_ | refine GivesAll.cons (.fnC _ _ rfl) ?_ | refine GivesAll.cons (.agg (by repeat first | exact .nil | refine GiveCs.cons (.ro _) ?_ | refine GiveCs.cons (.hand rfl) ?_ | refine GiveCs.cons (.deep rfl) ?_ | refine GiveCs.cons (.snap rfl WD.w rfl) ?_)) ?_); done)
  (hok : (cellsD l).all okD = true := by exact rfl) (hf : Callable P f := by exact .mk rfl rfl rfl) : CallW false P w0 g0 n e rs f ts (some d) K := ⟨fun o cx args tys ho hcx hd hx => by
 obtain ⟨fn, h1, h2, h3⟩ := hf
 obtain ⟨e1, rs1, h4, h5⟩ := givenW_of (n := n) (holesW_of (slOf_of (forceDs_iff.1 hk)))
 refine OpT.call3 (h := ⟨false, row⟩) (T := (resG l).val) ho hcx h1 h2 h3 hx hc (fun row' r hr => ⟨hr.1, by rw [hr.2], by rw [hr.2]⟩) hC hs (okS_resG hok) rfl ?_
 show Lg n K _
 rw [show (resG l).row.map C.own = ((cellsD l).filter isSl).map C.own from rfl, h4, hd]
 exact .put (forceS_iff.1 h5)⟩
end
end Go.Proofs.YteelmdpahpggkaaGreat.T

